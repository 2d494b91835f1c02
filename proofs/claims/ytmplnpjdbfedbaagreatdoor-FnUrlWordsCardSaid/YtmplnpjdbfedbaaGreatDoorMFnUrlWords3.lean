/- Lemmas and contracts for the law FnUrlWords, part 3: of the program's functions, and over data alone. Conditions: the listed package-level variables begin as the program's text lays them (tied by the card). -/
import Derived.Test.YtmplnpjdbfedbaaGreatDoorMFnUrlWords2
namespace Go.Proofs.YtmplnpjdbfedbaaGreatDoor.X
open Go.RowKit Go.Proofs.YtmplnpjdbfedbaaGreatDoorW.PrintWords Go.Proofs.YtmplnpjdbfedbaaGreatDoorW.PrintLast Go.Proofs.YtmplnpjdbfedbaaGreatDoorW.PrintMore
attribute [local go_sem] max2_int min2_int max_two min_two max_three min_three max_four min_four
set_option linter.unusedVariables false
set_option linter.unusedSimpArgs false
section
open Go.Proofs.YtmplnpjdbfedbaaGreatDoorW.PrintWords.Aside0 renaming mk → yaa
open Go.Proofs.YtmplnpjdbfedbaaGreatDoor.X.IsS77 renaming far → yab, alloc → yac, drewN → yad, set_1 → yae, drew → yag, apart → yaq, ge → yau, below → yay
open Go.Proofs.YtmplnpjdbfedbaaGreatDoorW.PrintWords.KeepBut renaming set_ → yaf, trans → yam, blk → yas, of_below → yaw
open Go.Proofs.YtmplnpjdbfedbaaGreatDoorW.PrintWords renaming below_set → yah, keep_drewN → yai, keep_alloc → yaj, pw_below_drewN → yak, keep_drew → yal, keep_far → yan, below_drew1 → yao, below_alloc → yap, keep_size → yax
open Go.Proofs.YtmplnpjdbfedbaaGreatDoorW.PrintWords.Kd renaming R_mono → yar, R_keep → yat, R_far → yav, R_below → yaz, R_types → yba
abbrev q19_0 : Array Bool := Array.replicate 8 false
abbrev q19_1 : Array Bool := #[true, false, false, false, false, false, false, false]
abbrev q19_2 : Array Bool := #[true, false, true, false, false, false, false, false]
abbrev q19_3 : Array Bool := #[true, true, true, false, false, false, false, false]
abbrev q19_4 : Array Bool := #[true, true, true, true, false, false, false, false]
abbrev q19_5 : Array Bool := #[true, true, true, true, true, false, false, false]
abbrev q19_6 : Array Bool := #[true, true, true, true, true, true, false, false]
abbrev q19_7 : Array Bool := #[true, true, true, true, true, true, true, false]
abbrev q19_8 : Array Bool := #[true, true, true, true, true, true, true, true]
def spec_l20Ask.f (k : Nat) (s0_0 : List Int) (s0_1 : Int) (a1 : Int) : Option ((List (S65)) × ByteArray × Int × Int) := (spec_l20Ops.f k s0_0 s0_1 0).bind fun bt102 => ((spec_l20Path.f k s0_0 bt102.2).bind fun bt106 => ((spec_l20Rd_pick.f k s0_0 bt106.2 80).bind fun bt108 => ((some (([9999, bt108.1] : List Int) : List Int)).bind fun y110 => ((spec_l20Rd_pick.f k s0_0 bt108.2 2).bind fun bt113 => (if 0 ≤ bt113.1 then (if bt113.1 < (y110.length : Int) then ((spec_l20Rd_odd.f k s0_0 bt113.2 a1).bind fun bt117 => (if bt117.1 = true then ((spec_l20Rd_pick.f k s0_0 bt117.2 3).bind fun bt119 => (if bt119.1 = 0 then ((some (([(⟨#[]⟩ : ByteArray), (⟨#[97, 98, 99, 100, 101, 102, 103]⟩ : ByteArray), (⟨#[65]⟩ : ByteArray), (⟨#[97, 32, 98]⟩ : ByteArray)] : List ByteArray) : List ByteArray)).bind fun y121 => ((spec_l20Rd_pick.f k s0_0 bt119.2 4).bind fun bt124 => (if 0 ≤ bt124.1 then (if bt124.1 < (y121.length : Int) then (some (bt102.1, rdOf ByteArray.empty y121 bt124.1, rd y110 bt113.1, bt124.2)) else (none)) else (none)))) else (if bt119.1 = 1 then ((some (([(-1), 10000] : List Int) : List Int)).bind fun y127 => ((spec_l20Rd_pick.f k s0_0 bt119.2 2).bind fun bt130 => (if 0 ≤ bt130.1 then (if bt130.1 < (y127.length : Int) then (some (bt102.1, bt106.1, rd y127 bt130.1, bt130.2)) else (none)) else (none)))) else ((spec_l20Op.f k s0_0 bt119.2 1).bind fun bt133 => (if bt102.1.length < 3518437208883 then (some ((bt102.1 ++ [(⟨bt133.1, bt133.2.1, bt133.2.2.1, bt133.2.2.2.1, bt133.2.2.2.2.1⟩ : S65)]), bt106.1, rd y110 bt113.1, bt133.2.2.2.2.2)) else (none)))))) else (some (bt102.1, bt106.1, rd y110 bt113.1, bt117.2)))) else (none)) else (none))))))
def spec_l20Ask.T4 : Bool × List (List Nat × List Nat) := (true, [([], []), ([0], [0]), ([], []), ([2], [2]), ([3], [3]), ([1, 4, 3], [1, 4]), ([0, 1, 2, 3, 4, 5], []), ([6, 5, 5, 0, 1, 2, 3, 4, 5], [5, 6])])
def spec_l20Ask.B4 : List Nat := [0, 1, 0, 4, 12, 31, 63, 127]
theorem spec_l20Ask.tab4 : rtab .any (opsOf Tryz.f19 4) = spec_l20Ask.T4 := by kernel_rfl
theorem spec_l20Ask.bits4 : waitsOk spec_l20Ask.T4.2 spec_l20Ask.B4 = true := by kernel_rfl
set_option maxHeartbeats 8000000 in
set_option maxRecDepth 100000 in
theorem spec_l20Ask.calls (k : Nat) (g : Nat) (s0_0 : List Int) (s0_1 : Int) (a1 : Int) (r1 : List (S65)) (r2 : ByteArray) (r3 : Int) (r4 : Int) (w0 w : World) (hI : IsS77 w0 w g s0_0 s0_1) (hB : Below w0.heap.size w0 w) (h : spec_l20Ask.f k s0_0 s0_1 a1 = some (r1, r2, r3, r4)) :
  Calls Tryz.prog 19 #[.pointer (some ⟨g, 0, none⟩), .int .i64 a1] w fun e w' => ∃ v0_ : Value, e = .returned (.agg #[v0_, .string r2, .int .i64 r3]) ∧ Kd.R k65 65 w' w.heap.size (fun _ => True) v0_ r1 ∧ IsS77 w0 w' g s0_0 r4 ∧ Below w0.heap.size w0 w' ∧ KeepBut w w' g none := by
 have hu25 := Tryz.underlying25; have HI0 := yaa hI; have HK := yaa (KeepBut.refl w g none); have HL := yaa hB.size; clear hI; have HW0 := yaa hB.size; have HB := yaa hB; clear hB; have H : ((spec_l20Ops.f k s0_0 s0_1 0).bind fun d3 => ((spec_l20Path.f k s0_0 d3.2).bind fun e8 => ((spec_l20Rd_pick.f k s0_0 e8.2 80).bind fun h0 => ((some (([9999, h0.1] : List Int) : List Int)).bind fun y110 => ((spec_l20Rd_pick.f k s0_0 h0.2 2).bind fun d4 => (if 0 ≤ d4.1 then (if d4.1 < (y110.length : Int) then ((spec_l20Rd_odd.f k s0_0 d4.2 a1).bind fun f3 => (if f3.1 = true then ((spec_l20Rd_pick.f k s0_0 f3.2 3).bind fun e4 => (if e4.1 = 0 then ((some (([(⟨#[]⟩ : ByteArray), (⟨#[97, 98, 99, 100, 101, 102, 103]⟩ : ByteArray), (⟨#[65]⟩ : ByteArray), (⟨#[97, 32, 98]⟩ : ByteArray)] : List ByteArray) : List ByteArray)).bind fun y121 => ((spec_l20Rd_pick.f k s0_0 e4.2 4).bind fun c4 => (if 0 ≤ c4.1 then (if c4.1 < (y121.length : Int) then (some (d3.1, rdOf ByteArray.empty y121 c4.1, rd y110 d4.1, c4.2)) else (none)) else (none)))) else (if e4.1 = 1 then ((some (([(-1), 10000] : List Int) : List Int)).bind fun y127 => ((spec_l20Rd_pick.f k s0_0 e4.2 2).bind fun c5 => (if 0 ≤ c5.1 then (if c5.1 < (y127.length : Int) then (some (d3.1, e8.1, rd y127 c5.1, c5.2)) else (none)) else (none)))) else ((spec_l20Op.f k s0_0 e4.2 1).bind fun d5 => (if d3.1.length < 3518437208883 then (some ((d3.1 ++ [(⟨d5.1, d5.2.1, d5.2.2.1, d5.2.2.2.1, d5.2.2.2.2.1⟩ : S65)]), e8.1, rd y110 d4.1, d5.2.2.2.2.2)) else (none)))))) else (some (d3.1, e8.1, rd y110 d4.1, f3.2)))) else (none)) else (none))))))) = some (r1, r2, r3, r4) := h; clear h; obtain ⟨⟨b4, c9⟩, A3, H⟩ := bindA H; (try dsimp only at H); obtain ⟨⟨b8, d0⟩, A4, H⟩ := bindA H; (try dsimp only at H); obtain ⟨⟨c0, c2⟩, A5, H⟩ := bindA H; (try dsimp only at H); obtain ⟨y110, hy110, H⟩ := bindY H; (try dsimp only at H); have Ny110 := yaa hy110; clear hy110; obtain ⟨⟨b6, c1⟩, A6, H⟩ := bindA H; (try dsimp only at H)
 by_cases c7 : 0 ≤ b6
 rotate_left
 ·
  rw [if_neg c7] at H
  exact absurd H (by simp)
 rw [if_pos c7] at H
 replace c7 := decide_eq_true c7
 by_cases c8 : b6 < (y110.length : Int)
 rotate_left
 ·
  rw [if_neg c8] at H
  exact absurd H (by simp)
 rw [if_pos c8] at H
 replace c8 := decide_eq_true c8; obtain ⟨⟨p6, c6⟩, A9, H⟩ := bindA H; (try dsimp only at H)
 by_cases c10 : p6 = true
 rotate_left
 ·
  replace c10 := Bool.eq_false_iff.mpr c10
  subst c10
  rw [if_neg (show ¬ (false = true) by decide)] at H
  simp only [Option.some.injEq, Prod.mk.injEq] at H
  obtain ⟨rfl, rfl, rfl, rfl⟩ := H
  go_enter Tryz.func19, Tryz.ntmps19
  go_wp2_with (first | ((with_reducible refine gd_ 4 rfl ?_); refine bx_ 4 rfl #[.slice none 0 0, .string (⟨#[]⟩ : ByteArray), .int .i64 0] 25 ?_; intro b3 hg w89 hbox hb; replace HB := yaa (below_step (by repeat (with_reducible first | exact HB.out | apply yap | apply yak | apply yao | refine yah ?_ (yau HI0.out))) hb); have a4 := yaa (hbox); have a8 := yaa ((by rw [hg]; exact (yax (w := w) (g := g) (row := none) (by repeat (with_reducible first | exact HK.out | apply yaf | apply yai | apply yal | apply yaj))) : w.heap.size ≤ b3)); have f5 := yaa ((Nat.le_trans HW0.out (by rw [hg]; exact (yax (w := w) (g := g) (row := none) (by repeat (with_reducible first | exact HK.out | apply yaf | apply yai | apply yal | apply yaj))) : w.heap.size ≤ b3) : w0.heap.size ≤ b3)); replace HK := yaa (yam (by repeat (with_reducible first | exact HK.out | apply yaf | apply yai | apply yal | apply yaj)) (yaw hb g none) (.inl rfl)); have a3 := yaa ((by rw [hg]; exact Nat.ne_of_lt (IsS77.lt (show IsS77 w0 _ g s0_0 s0_1 from by repeat (with_reducible first | exact HI0.out | apply yac | apply yad | apply yag | apply yae))) : g ≠ b3)); replace HI0 := yaa (yay (by repeat (with_reducible first | exact HI0.out | apply yac | apply yad | apply yag | apply yae)) hb); have b1 := yaa a3.out.symm; clear hb hbox hg) | ((with_reducible refine gc_ 41 rfl ?_); refine gl_ (some 7) rfl Tryz.func41 #[.pointer (some ⟨g, 0, none⟩), .int .i64 0] ?_; (with_reducible refine (spec_l20Ops.calls k g s0_0 s0_1 0 b4 c9 w0 _ ?side1 ?side2 A3.out).mono ?_); (case side1 => repeat (with_reducible first | exact HI0.out | apply yac | apply yad | apply yag | apply yae | refine yab ?_ a3.out _)); (case side2 => repeat (with_reducible first | exact HB.out | apply yap | apply yak | apply yao | refine yah ?_ (Aside0.out ‹_›) | refine yah ?_ (yau HI0.out))); rintro e w90 ⟨h2, rfl, ho0, hi, hb, hk⟩; refine ⟨_, rfl, ?_⟩; replace a4 := yaa (yas hk (upB a4.out) b1.out (by simp)); have a5 := yaa (Kd.R_lower ho0 (yax (w := w) (g := g) (row := none) (by repeat (with_reducible first | exact HK.out | apply yaf | apply yai | apply yal | apply yaj | refine yan ?_ a8.out _)))); replace HK := yaa (yam (by repeat (with_reducible first | exact HK.out | apply yaf | apply yai | apply yal | apply yaj | refine yan ?_ a8.out _)) hk (.inl rfl)); replace HB := yaa (hb); replace HI0 := yaa (hi); (try clear hb hk hi ho0)) | ((with_reducible refine gc_ 42 rfl ?_); refine gl_ (some 9) rfl Tryz.func42 #[.pointer (some ⟨g, 0, none⟩)] ?_; (with_reducible refine (spec_l20Path.calls k g s0_0 c9 b8 d0 w0 _ ?side1 ?side2 A4.out).mono ?_); (case side1 => repeat (with_reducible first | exact HI0.out | apply yac | apply yad | apply yag | apply yae | refine yab ?_ a3.out _)); (case side2 => repeat (with_reducible first | exact HB.out | apply yap | apply yak | apply yao | refine yah ?_ (Aside0.out ‹_›) | refine yah ?_ (yau HI0.out))); rintro e w91 ⟨rfl, hi, hb, hk⟩; refine ⟨_, rfl, ?_⟩; replace a4 := yaa (yas hk (upB a4.out) b1.out (by simp)); replace a5 := yaa (yar (yat (yaq (show IsS77 w0 _ g s0_0 c9 from by repeat (with_reducible first | exact HI0.out | apply yac | apply yad | apply yag | apply yae | refine yab ?_ a3.out _)) (upR a5.out) (by decide)) hk (fun _ h => h.2)) (fun _ h => h.1)); replace HK := yaa (yam (by repeat (with_reducible first | exact HK.out | apply yaf | apply yai | apply yal | apply yaj | refine yan ?_ a8.out _)) hk (.inl rfl)); replace HB := yaa (hb); replace HI0 := yaa (hi); (try clear hb hk hi)) | ((with_reducible refine gc_ 27 rfl ?_); refine gl_ (some 11) rfl Tryz.func27 #[.pointer (some ⟨g, 0, none⟩), .int .i64 80] ?_; (with_reducible refine (spec_l20Rd_pick.calls k g s0_0 d0 80 c0 c2 w0 _ ?side1 ?side2 A5.out).mono ?_); (case side1 => repeat (with_reducible first | exact HI0.out | apply yac | apply yad | apply yag | apply yae | refine yab ?_ a3.out _)); (case side2 => repeat (with_reducible first | exact HB.out | apply yap | apply yak | apply yao | refine yah ?_ (Aside0.out ‹_›) | refine yah ?_ (yau HI0.out))); rintro e w92 ⟨rfl, hi, hb, hk⟩; refine ⟨_, rfl, ?_⟩; replace a4 := yaa (yas hk (upB a4.out) b1.out (by simp)); replace a5 := yaa (yar (yat (yaq (show IsS77 w0 _ g s0_0 d0 from by repeat (with_reducible first | exact HI0.out | apply yac | apply yad | apply yag | apply yae | refine yab ?_ a3.out _)) (upR a5.out) (by decide)) hk (fun _ h => h.2)) (fun _ h => h.1)); replace HK := yaa (yam (by repeat (with_reducible first | exact HK.out | apply yaf | apply yai | apply yal | apply yaj | refine yan ?_ a8.out _)) hk (.inl rfl)); replace HB := yaa (hb); replace HI0 := yaa (hi); (try clear hb hk hi)) | ((with_reducible refine gd_ 12 rfl ?_); refine Kd.R_lit (Kd.int .i64) _ 3 ?hg (N := 12) ?hd (xs := ([9999, c0] : List Int)) (inner := [.int .i64 9999, .int .i64 c0]) (ok := fun _ => True) (okp := fun _ => True) ?hr ?hp (fun _ hk => hk) trivial (Below.refl _ _) (Nat.le_refl _) (by simp) ?_; (case hd => rfl); (case hg => rfl); (case hr => first | (go_simp; done) | (go_simp; rfl)); (case hp => exact (Reps.one (show Kd.M (Kd.int .i64) _ _ _ 9999 [.int .i64 9999] from rfl) (Reps.one (show Kd.M (Kd.int .i64) _ _ _ c0 [.int .i64 c0] from rfl) (Reps.none _ _)))); intro h3 w93 g8 hb hg_ hnew_; clear hg_ hnew_; (first | rw [← Ny110.out] at g8 | (simp only [Int.reduceToNat] at g8; rw [← Ny110.out] at g8)); replace a5 := yaa (yaz (upR a5.out) hb); have a9 := yaa (Kd.R_lower g8 (yax (w := w) (g := g) (row := none) (by repeat (with_reducible first | exact HK.out | apply yaf | apply yai | apply yal | apply yaj | refine yan ?_ a8.out _)))); replace a4 := yaa (blk_below (upB a4.out) hb); replace HK := yaa (yam (by repeat (with_reducible first | exact HK.out | apply yaf | apply yai | apply yal | apply yaj | refine yan ?_ a8.out _)) (yaw hb g none) (.inl rfl)); replace HB := yaa (below_step (by repeat (with_reducible first | exact HB.out | apply yap | apply yak | apply yao | refine yah ?_ (Aside0.out ‹_›) | refine yah ?_ (yau HI0.out))) hb); replace HI0 := yaa (yay (by repeat (with_reducible first | exact HI0.out | apply yac | apply yad | apply yag | apply yae | refine yab ?_ a3.out _)) hb); clear hb g8) | ((with_reducible refine gc_ 27 rfl ?_); refine gl_ (some 14) rfl Tryz.func27 #[.pointer (some ⟨g, 0, none⟩), .int .i64 2] ?_; (with_reducible refine (spec_l20Rd_pick.calls k g s0_0 c2 2 b6 c1 w0 _ ?side1 ?side2 A6.out).mono ?_); (case side1 => repeat (with_reducible first | exact HI0.out | apply yac | apply yad | apply yag | apply yae | refine yab ?_ a3.out _)); (case side2 => repeat (with_reducible first | exact HB.out | apply yap | apply yak | apply yao | refine yah ?_ (Aside0.out ‹_›) | refine yah ?_ (yau HI0.out))); rintro e w95 ⟨rfl, hi, hb, hk⟩; refine ⟨_, rfl, ?_⟩; replace a4 := yaa (yas hk (upB a4.out) b1.out (by simp)); replace a5 := yaa (yar (yat (yaq (show IsS77 w0 _ g s0_0 c2 from by repeat (with_reducible first | exact HI0.out | apply yac | apply yad | apply yag | apply yae | refine yab ?_ a3.out _)) (upR a5.out) (by decide)) hk (fun _ h => h.2)) (fun _ h => h.1)); replace a9 := yaa (yar (yat (yaq (show IsS77 w0 _ g s0_0 c2 from by repeat (with_reducible first | exact HI0.out | apply yac | apply yad | apply yag | apply yae | refine yab ?_ a3.out _)) (upR a9.out) (by decide)) hk (fun _ h => h.2)) (fun _ h => h.1)); replace HK := yaa (yam (by repeat (with_reducible first | exact HK.out | apply yaf | apply yai | apply yal | apply yaj | refine yan ?_ a8.out _)) hk (.inl rfl)); replace HB := yaa (hb); replace HI0 := yaa (hi); (try clear hb hk hi); obtain ⟨v4, v5, q9⟩ := Kd.R_slice a9.out; subst q9; have p115 : 0 ≤ (b6 : Int) := of_decide_eq_true (by assumption); have q115 : b6 < (y110.length : Int) := of_decide_eq_true (by assumption); obtain ⟨ad115, e7, d6⟩ := Kd.at_int (Kd.R_reads' a9.out).2.2 b6 p115 q115; cases e7; replace p115 := eq_true p115; replace q115 := eq_true q115; obtain ⟨e2, e3, r0⟩ := Kd.R_slice a5.out; subst r0) | ((with_reducible refine gd_ 5 rfl ?_); refine bx_ 5 rfl #[.slice none 0 0, .string (⟨#[]⟩ : ByteArray), .int .i64 0] 25 ?_; intro b0 hg w98 hbox hb; replace a5 := yaa (yaz (upR a5.out) hb); replace a9 := yaa (yaz (upR a9.out) hb); replace HB := yaa (below_step (by repeat (with_reducible first | exact HB.out | apply yap | apply yak | apply yao | refine yah ?_ (Aside0.out ‹_›) | refine yah ?_ (yau HI0.out))) hb); have a7 := yaa (hbox); have b7 := yaa ((by rw [hg]; exact (yax (w := w) (g := g) (row := none) (by repeat (with_reducible first | exact HK.out | apply yaf | apply yai | apply yal | apply yaj | refine yan ?_ a8.out _))) : w.heap.size ≤ b0)); have f7 := yaa ((Nat.le_trans HW0.out (by rw [hg]; exact (yax (w := w) (g := g) (row := none) (by repeat (with_reducible first | exact HK.out | apply yaf | apply yai | apply yal | apply yaj | refine yan ?_ a8.out _))) : w.heap.size ≤ b0) : w0.heap.size ≤ b0)); replace HK := yaa (yam (by repeat (with_reducible first | exact HK.out | apply yaf | apply yai | apply yal | apply yaj | refine yan ?_ a8.out _)) (yaw hb g none) (.inl rfl)); have b2 := yaa ((by rw [hg]; exact Nat.ne_of_lt (blk_lt (upB a4.out)) : b3 ≠ b0)); replace a4 := yaa (blk_below (upB a4.out) hb); have b9 := yaa b2.out.symm; have a6 := yaa ((by rw [hg]; exact Nat.ne_of_lt (IsS77.lt (show IsS77 w0 _ g s0_0 c1 from by repeat (with_reducible first | exact HI0.out | apply yac | apply yad | apply yag | apply yae | refine yab ?_ a3.out _))) : g ≠ b0)); replace HI0 := yaa (yay (by repeat (with_reducible first | exact HI0.out | apply yac | apply yad | apply yag | apply yae | refine yab ?_ a3.out _)) hb); have b5 := yaa a6.out.symm; clear hb hbox hg; have t8 := b9.out; have t9 := b2.out; have r5 := b5.out; have r6 := a6.out; obtain ⟨i0, i1, i2⟩ := cc3_ a7.out; obtain ⟨i3, i4⟩ := cf2_ a7.out; have i5 := blk_frozen a7.out 2) | ((with_reducible refine gc_ 43 rfl ?_); refine gl_ (some 20) rfl Tryz.func43 #[.pointer (some ⟨g, 0, none⟩), .int .i64 a1] ?_; (with_reducible refine (spec_l20Rd_odd.calls k g s0_0 c1 a1 false c6 w0 _ ?side1 ?side2 A9.out).mono ?_); (case side1 => repeat (with_reducible first | exact HI0.out | apply yac | apply yad | apply yag | apply yae | refine yab ?_ a3.out _ | refine yab ?_ a6.out _)); (case side2 => repeat (with_reducible first | exact HB.out | apply yap | apply yak | apply yao | refine yah ?_ (Aside0.out ‹_›) | refine yah ?_ (yau HI0.out))); rintro e w102 ⟨rfl, hi, hb, hk⟩; refine ⟨_, rfl, ?_⟩; replace a4 := yaa (yas hk (g' := b3) (o := .cells #[.slice none 0 0, .string (⟨#[]⟩ : ByteArray), .int .i64 0] 25 (0, 0)) (by repeat (with_reducible first | exact a4.out | refine oneB ?_ | refine blk_far ?_ b2.out _)) b1.out (by simp)); replace a5 := yaa (yar (yat (yaq (show IsS77 w0 _ g s0_0 c1 from by repeat (with_reducible first | exact HI0.out | apply yac | apply yad | apply yag | apply yae | refine yab ?_ a3.out _ | refine yab ?_ a6.out _)) (by (with_reducible repeat (first | apply Kd.R_alloc | apply Kd.R_drewN | apply Kd.R_drew)); exact (yar (yav (p := ⟨b0, 2, none⟩) (yav (p := ⟨b0, 1, none⟩) (yav (p := ⟨b0, 0, none⟩) (yba a5.out a7.out (by decide)) (fun _ hk => hk.2) (.slice e2 b4.length e3)) (fun _ hk => hk.2) (.string b8)) (fun _ hk => hk.2) (.int .i64 (rd y110 b6))) (fun _ h_ => h_.1))) (by decide)) hk (fun _ h => h.2)) (fun _ h => h.1)); replace a9 := yaa (yar (yat (yaq (show IsS77 w0 _ g s0_0 c1 from by repeat (with_reducible first | exact HI0.out | apply yac | apply yad | apply yag | apply yae | refine yab ?_ a3.out _ | refine yab ?_ a6.out _)) (by (with_reducible repeat (first | apply Kd.R_alloc | apply Kd.R_drewN | apply Kd.R_drew)); exact (yar (yav (p := ⟨b0, 2, none⟩) (yav (p := ⟨b0, 1, none⟩) (yav (p := ⟨b0, 0, none⟩) (yba a9.out a7.out (by decide)) (fun _ hk => hk.2) (.slice e2 b4.length e3)) (fun _ hk => hk.2) (.string b8)) (fun _ hk => hk.2) (.int .i64 (rd y110 b6))) (fun _ h_ => h_.1))) (by decide)) hk (fun _ h => h.2)) (fun _ h => h.1)); replace a7 := yaa (yas hk (g' := b0) (o := .cells #[.slice e2 b4.length e3, .string b8, .int .i64 (rd y110 b6)] 25 (0, 0)) (by (repeat refine oneB ?_); refine blk_put (cs := #[.slice e2 b4.length e3, .string b8, .int .i64 0]) ?_ 2 _ rfl; refine blk_put (cs := #[.slice e2 b4.length e3, .string (⟨#[]⟩ : ByteArray), .int .i64 0]) ?_ 1 _ rfl; refine blk_put (cs := #[.slice none 0 0, .string (⟨#[]⟩ : ByteArray), .int .i64 0]) ?_ 0 _ rfl; exact upB a7.out) b5.out (by simp)); replace HK := yaa (yam (by repeat (with_reducible first | exact HK.out | apply yaf | apply yai | apply yal | apply yaj | refine yan ?_ a8.out _ | refine yan ?_ b7.out _)) hk (.inl rfl)); replace HB := yaa (hb); replace HI0 := yaa (hi); (try clear hb hk hi); obtain ⟨i6, i7, i8⟩ := cc3_ a7.out; obtain ⟨i9, j0, j1⟩ := cf3_ a7.out; have r7 := b1.out; have r8 := a3.out; obtain ⟨j2, j3, j4⟩ := cc3_ a4.out; obtain ⟨j5, j6⟩ := cf2_ a4.out; have j7 := blk_frozen a4.out 2))
  refine bodyPost_ret (results_cell_row rfl _ _ b3 25 #[.slice e2 b4.length e3, .string b8, .int .i64 (rd y110 b6)] (0, 0) _ rfl (by (repeat refine oneB ?_); refine blk_put (cs := #[.slice e2 b4.length e3, .string b8, .int .i64 0]) ?_ 2 _ rfl; refine blk_put (cs := #[.slice e2 b4.length e3, .string (⟨#[]⟩ : ByteArray), .int .i64 0]) ?_ 1 _ rfl; refine blk_put (cs := #[.slice none 0 0, .string (⟨#[]⟩ : ByteArray), .int .i64 0]) ?_ 0 _ rfl; exact upB a4.out) Tryz.underlying25 rfl (by kernel_rfl)) rfl ?_
  exact ⟨_, by first | rfl | (simp [*, errW_none, errW_some] <;> rfl), by (with_reducible repeat (first | apply Kd.R_alloc | apply Kd.R_drewN | apply Kd.R_drew)); exact yar (yav (p := ⟨b3, 2, none⟩) (yav (p := ⟨b3, 1, none⟩) (yav (p := ⟨b3, 0, none⟩) (yba a5.out a4.out (by decide)) (fun _ hk => hk.2) (.slice e2 b4.length e3)) (fun _ hk => hk.2) (.string b8)) (fun _ hk => hk.2) (.int .i64 (rd y110 b6))) (fun _ hk => trivial), by repeat (with_reducible first | exact HI0.out | apply yac | apply yad | apply yag | apply yae | refine yab ?_ a3.out _ | refine yab ?_ a6.out _), by repeat (with_reducible first | exact HB.out | apply yap | apply yak | apply yao | refine yah ?_ (Aside0.out ‹_›) | refine yah ?_ (yau HI0.out)), by repeat (with_reducible first | exact HK.out | apply yaf | apply yai | apply yal | apply yaj | refine yan ?_ a8.out _ | refine yan ?_ b7.out _)⟩
 subst c10
 rw [if_pos rfl] at H
 obtain ⟨⟨f4, c3⟩, A11, H⟩ := bindA H; (try dsimp only at H)
 by_cases c12 : f4 = 0
 ·
  rw [if_pos c12] at H
  have h4 := beq_iff_eq.mpr c12; have h5 := bne_eq_false_iff_eq.mpr c12; clear c12; obtain ⟨y121, hy121⟩ : ∃ y_ : List ByteArray, y_ = (([(⟨#[]⟩ : ByteArray), (⟨#[97, 98, 99, 100, 101, 102, 103]⟩ : ByteArray), (⟨#[65]⟩ : ByteArray), (⟨#[97, 32, 98]⟩ : ByteArray)] : List ByteArray)) := ⟨_, rfl⟩
  replace H : ((spec_l20Rd_pick.f k s0_0 c3 4).bind fun c4 => (if 0 ≤ c4.1 then (if c4.1 < (y121.length : Int) then (some (b4, rdOf ByteArray.empty y121 c4.1, rd y110 b6, c4.2)) else (none)) else (none))) = some (r1, r2, r3, r4) := by first | (rw [hy121]; with_reducible exact H) | (have H2_ := (Option.bind_some _ _).symm.trans H; rw [hy121]; with_reducible exact H2_) | (have H2_ := (Option.bind_some _ _).symm.trans H; with_reducible exact H2_) | with_reducible exact H | (rw [hy121]; exact H) | exact H
  have Ny121 := yaa hy121; clear hy121; obtain ⟨⟨d2, p7⟩, A13, H⟩ := bindA H; (try dsimp only at H)
  by_cases c14 : 0 ≤ d2
  ·
   rw [if_pos c14] at H
   replace c14 := decide_eq_true c14
   by_cases c15 : d2 < (y121.length : Int)
   ·
    rw [if_pos c15] at H
    replace c15 := decide_eq_true c15
    simp only [Option.some.injEq, Prod.mk.injEq] at H
    obtain ⟨rfl, rfl, rfl, rfl⟩ := H
    go_enter Tryz.func19, Tryz.ntmps19
    go_wp2_with (first | ((with_reducible refine gd_ 4 rfl ?_); refine bx_ 4 rfl #[.slice none 0 0, .string (⟨#[]⟩ : ByteArray), .int .i64 0] 25 ?_; intro b3 hg w16 hbox hb; replace HB := yaa (below_step (by repeat (with_reducible first | exact HB.out | apply yap | apply yak | apply yao | refine yah ?_ (yau HI0.out))) hb); have a4 := yaa (hbox); have a8 := yaa ((by rw [hg]; exact (yax (w := w) (g := g) (row := none) (by repeat (with_reducible first | exact HK.out | apply yaf | apply yai | apply yal | apply yaj))) : w.heap.size ≤ b3)); have f5 := yaa ((Nat.le_trans HW0.out (by rw [hg]; exact (yax (w := w) (g := g) (row := none) (by repeat (with_reducible first | exact HK.out | apply yaf | apply yai | apply yal | apply yaj))) : w.heap.size ≤ b3) : w0.heap.size ≤ b3)); replace HK := yaa (yam (by repeat (with_reducible first | exact HK.out | apply yaf | apply yai | apply yal | apply yaj)) (yaw hb g none) (.inl rfl)); have a3 := yaa ((by rw [hg]; exact Nat.ne_of_lt (IsS77.lt (show IsS77 w0 _ g s0_0 s0_1 from by repeat (with_reducible first | exact HI0.out | apply yac | apply yad | apply yag | apply yae))) : g ≠ b3)); replace HI0 := yaa (yay (by repeat (with_reducible first | exact HI0.out | apply yac | apply yad | apply yag | apply yae)) hb); have b1 := yaa a3.out.symm; clear hb hbox hg) | ((with_reducible refine gc_ 41 rfl ?_); refine gl_ (some 7) rfl Tryz.func41 #[.pointer (some ⟨g, 0, none⟩), .int .i64 0] ?_; (with_reducible refine (spec_l20Ops.calls k g s0_0 s0_1 0 b4 c9 w0 _ ?side1 ?side2 A3.out).mono ?_); (case side1 => repeat (with_reducible first | exact HI0.out | apply yac | apply yad | apply yag | apply yae | refine yab ?_ a3.out _)); (case side2 => repeat (with_reducible first | exact HB.out | apply yap | apply yak | apply yao | refine yah ?_ (Aside0.out ‹_›) | refine yah ?_ (yau HI0.out))); rintro e w17 ⟨h2, rfl, ho0, hi, hb, hk⟩; refine ⟨_, rfl, ?_⟩; replace a4 := yaa (yas hk (upB a4.out) b1.out (by simp)); have a5 := yaa (Kd.R_lower ho0 (yax (w := w) (g := g) (row := none) (by repeat (with_reducible first | exact HK.out | apply yaf | apply yai | apply yal | apply yaj | refine yan ?_ a8.out _)))); replace HK := yaa (yam (by repeat (with_reducible first | exact HK.out | apply yaf | apply yai | apply yal | apply yaj | refine yan ?_ a8.out _)) hk (.inl rfl)); replace HB := yaa (hb); replace HI0 := yaa (hi); (try clear hb hk hi ho0)) | ((with_reducible refine gc_ 42 rfl ?_); refine gl_ (some 9) rfl Tryz.func42 #[.pointer (some ⟨g, 0, none⟩)] ?_; (with_reducible refine (spec_l20Path.calls k g s0_0 c9 b8 d0 w0 _ ?side1 ?side2 A4.out).mono ?_); (case side1 => repeat (with_reducible first | exact HI0.out | apply yac | apply yad | apply yag | apply yae | refine yab ?_ a3.out _)); (case side2 => repeat (with_reducible first | exact HB.out | apply yap | apply yak | apply yao | refine yah ?_ (Aside0.out ‹_›) | refine yah ?_ (yau HI0.out))); rintro e w18 ⟨rfl, hi, hb, hk⟩; refine ⟨_, rfl, ?_⟩; replace a4 := yaa (yas hk (upB a4.out) b1.out (by simp)); replace a5 := yaa (yar (yat (yaq (show IsS77 w0 _ g s0_0 c9 from by repeat (with_reducible first | exact HI0.out | apply yac | apply yad | apply yag | apply yae | refine yab ?_ a3.out _)) (upR a5.out) (by decide)) hk (fun _ h => h.2)) (fun _ h => h.1)); replace HK := yaa (yam (by repeat (with_reducible first | exact HK.out | apply yaf | apply yai | apply yal | apply yaj | refine yan ?_ a8.out _)) hk (.inl rfl)); replace HB := yaa (hb); replace HI0 := yaa (hi); (try clear hb hk hi)) | ((with_reducible refine gc_ 27 rfl ?_); refine gl_ (some 11) rfl Tryz.func27 #[.pointer (some ⟨g, 0, none⟩), .int .i64 80] ?_; (with_reducible refine (spec_l20Rd_pick.calls k g s0_0 d0 80 c0 c2 w0 _ ?side1 ?side2 A5.out).mono ?_); (case side1 => repeat (with_reducible first | exact HI0.out | apply yac | apply yad | apply yag | apply yae | refine yab ?_ a3.out _)); (case side2 => repeat (with_reducible first | exact HB.out | apply yap | apply yak | apply yao | refine yah ?_ (Aside0.out ‹_›) | refine yah ?_ (yau HI0.out))); rintro e w19 ⟨rfl, hi, hb, hk⟩; refine ⟨_, rfl, ?_⟩; replace a4 := yaa (yas hk (upB a4.out) b1.out (by simp)); replace a5 := yaa (yar (yat (yaq (show IsS77 w0 _ g s0_0 d0 from by repeat (with_reducible first | exact HI0.out | apply yac | apply yad | apply yag | apply yae | refine yab ?_ a3.out _)) (upR a5.out) (by decide)) hk (fun _ h => h.2)) (fun _ h => h.1)); replace HK := yaa (yam (by repeat (with_reducible first | exact HK.out | apply yaf | apply yai | apply yal | apply yaj | refine yan ?_ a8.out _)) hk (.inl rfl)); replace HB := yaa (hb); replace HI0 := yaa (hi); (try clear hb hk hi)) | ((with_reducible refine gd_ 12 rfl ?_); refine Kd.R_lit (Kd.int .i64) _ 3 ?hg (N := 12) ?hd (xs := ([9999, c0] : List Int)) (inner := [.int .i64 9999, .int .i64 c0]) (ok := fun _ => True) (okp := fun _ => True) ?hr ?hp (fun _ hk => hk) trivial (Below.refl _ _) (Nat.le_refl _) (by simp) ?_; (case hd => rfl); (case hg => rfl); (case hr => first | (go_simp; done) | (go_simp; rfl)); (case hp => exact (Reps.one (show Kd.M (Kd.int .i64) _ _ _ 9999 [.int .i64 9999] from rfl) (Reps.one (show Kd.M (Kd.int .i64) _ _ _ c0 [.int .i64 c0] from rfl) (Reps.none _ _)))); intro h3 w20 f6 hb hg_ hnew_; clear hg_ hnew_; (first | rw [← Ny110.out] at f6 | (simp only [Int.reduceToNat] at f6; rw [← Ny110.out] at f6)); replace a5 := yaa (yaz (upR a5.out) hb); have a9 := yaa (Kd.R_lower f6 (yax (w := w) (g := g) (row := none) (by repeat (with_reducible first | exact HK.out | apply yaf | apply yai | apply yal | apply yaj | refine yan ?_ a8.out _)))); replace a4 := yaa (blk_below (upB a4.out) hb); replace HK := yaa (yam (by repeat (with_reducible first | exact HK.out | apply yaf | apply yai | apply yal | apply yaj | refine yan ?_ a8.out _)) (yaw hb g none) (.inl rfl)); replace HB := yaa (below_step (by repeat (with_reducible first | exact HB.out | apply yap | apply yak | apply yao | refine yah ?_ (Aside0.out ‹_›) | refine yah ?_ (yau HI0.out))) hb); replace HI0 := yaa (yay (by repeat (with_reducible first | exact HI0.out | apply yac | apply yad | apply yag | apply yae | refine yab ?_ a3.out _)) hb); clear hb f6) | ((with_reducible refine gc_ 27 rfl ?_); refine gl_ (some 14) rfl Tryz.func27 #[.pointer (some ⟨g, 0, none⟩), .int .i64 2] ?_; (with_reducible refine (spec_l20Rd_pick.calls k g s0_0 c2 2 b6 c1 w0 _ ?side1 ?side2 A6.out).mono ?_); (case side1 => repeat (with_reducible first | exact HI0.out | apply yac | apply yad | apply yag | apply yae | refine yab ?_ a3.out _)); (case side2 => repeat (with_reducible first | exact HB.out | apply yap | apply yak | apply yao | refine yah ?_ (Aside0.out ‹_›) | refine yah ?_ (yau HI0.out))); rintro e w22 ⟨rfl, hi, hb, hk⟩; refine ⟨_, rfl, ?_⟩; replace a4 := yaa (yas hk (upB a4.out) b1.out (by simp)); replace a5 := yaa (yar (yat (yaq (show IsS77 w0 _ g s0_0 c2 from by repeat (with_reducible first | exact HI0.out | apply yac | apply yad | apply yag | apply yae | refine yab ?_ a3.out _)) (upR a5.out) (by decide)) hk (fun _ h => h.2)) (fun _ h => h.1)); replace a9 := yaa (yar (yat (yaq (show IsS77 w0 _ g s0_0 c2 from by repeat (with_reducible first | exact HI0.out | apply yac | apply yad | apply yag | apply yae | refine yab ?_ a3.out _)) (upR a9.out) (by decide)) hk (fun _ h => h.2)) (fun _ h => h.1)); replace HK := yaa (yam (by repeat (with_reducible first | exact HK.out | apply yaf | apply yai | apply yal | apply yaj | refine yan ?_ a8.out _)) hk (.inl rfl)); replace HB := yaa (hb); replace HI0 := yaa (hi); (try clear hb hk hi); obtain ⟨u0, u1, p8⟩ := Kd.R_slice a9.out; subst p8; have p115 : 0 ≤ (b6 : Int) := of_decide_eq_true (by assumption); have q115 : b6 < (y110.length : Int) := of_decide_eq_true (by assumption); obtain ⟨ad115, e7, d6⟩ := Kd.at_int (Kd.R_reads' a9.out).2.2 b6 p115 q115; cases e7; replace p115 := eq_true p115; replace q115 := eq_true q115; obtain ⟨d7, d8, p9⟩ := Kd.R_slice a5.out; subst p9) | ((with_reducible refine gd_ 5 rfl ?_); refine bx_ 5 rfl #[.slice none 0 0, .string (⟨#[]⟩ : ByteArray), .int .i64 0] 25 ?_; intro b0 hg w25 hbox hb; replace a5 := yaa (yaz (upR a5.out) hb); replace a9 := yaa (yaz (upR a9.out) hb); replace HB := yaa (below_step (by repeat (with_reducible first | exact HB.out | apply yap | apply yak | apply yao | refine yah ?_ (Aside0.out ‹_›) | refine yah ?_ (yau HI0.out))) hb); have a7 := yaa (hbox); have b7 := yaa ((by rw [hg]; exact (yax (w := w) (g := g) (row := none) (by repeat (with_reducible first | exact HK.out | apply yaf | apply yai | apply yal | apply yaj | refine yan ?_ a8.out _))) : w.heap.size ≤ b0)); have f7 := yaa ((Nat.le_trans HW0.out (by rw [hg]; exact (yax (w := w) (g := g) (row := none) (by repeat (with_reducible first | exact HK.out | apply yaf | apply yai | apply yal | apply yaj | refine yan ?_ a8.out _))) : w.heap.size ≤ b0) : w0.heap.size ≤ b0)); replace HK := yaa (yam (by repeat (with_reducible first | exact HK.out | apply yaf | apply yai | apply yal | apply yaj | refine yan ?_ a8.out _)) (yaw hb g none) (.inl rfl)); have b2 := yaa ((by rw [hg]; exact Nat.ne_of_lt (blk_lt (upB a4.out)) : b3 ≠ b0)); replace a4 := yaa (blk_below (upB a4.out) hb); have b9 := yaa b2.out.symm; have a6 := yaa ((by rw [hg]; exact Nat.ne_of_lt (IsS77.lt (show IsS77 w0 _ g s0_0 c1 from by repeat (with_reducible first | exact HI0.out | apply yac | apply yad | apply yag | apply yae | refine yab ?_ a3.out _))) : g ≠ b0)); replace HI0 := yaa (yay (by repeat (with_reducible first | exact HI0.out | apply yac | apply yad | apply yag | apply yae | refine yab ?_ a3.out _)) hb); have b5 := yaa a6.out.symm; clear hb hbox hg; have r9 := b9.out; have s0 := b2.out; have s1 := b5.out; have s2 := a6.out; obtain ⟨j8, j9, k0⟩ := cc3_ a7.out; obtain ⟨k1, k2⟩ := cf2_ a7.out; have k3 := blk_frozen a7.out 2) | ((with_reducible refine gc_ 43 rfl ?_); refine gl_ (some 20) rfl Tryz.func43 #[.pointer (some ⟨g, 0, none⟩), .int .i64 a1] ?_; (with_reducible refine (spec_l20Rd_odd.calls k g s0_0 c1 a1 true c6 w0 _ ?side1 ?side2 A9.out).mono ?_); (case side1 => repeat (with_reducible first | exact HI0.out | apply yac | apply yad | apply yag | apply yae | refine yab ?_ a3.out _ | refine yab ?_ a6.out _)); (case side2 => repeat (with_reducible first | exact HB.out | apply yap | apply yak | apply yao | refine yah ?_ (Aside0.out ‹_›) | refine yah ?_ (yau HI0.out))); rintro e w29 ⟨rfl, hi, hb, hk⟩; refine ⟨_, rfl, ?_⟩; replace a4 := yaa (yas hk (g' := b3) (o := .cells #[.slice none 0 0, .string (⟨#[]⟩ : ByteArray), .int .i64 0] 25 (0, 0)) (by repeat (with_reducible first | exact a4.out | refine oneB ?_ | refine blk_far ?_ b2.out _)) b1.out (by simp)); replace a5 := yaa (yar (yat (yaq (show IsS77 w0 _ g s0_0 c1 from by repeat (with_reducible first | exact HI0.out | apply yac | apply yad | apply yag | apply yae | refine yab ?_ a3.out _ | refine yab ?_ a6.out _)) (by (with_reducible repeat (first | apply Kd.R_alloc | apply Kd.R_drewN | apply Kd.R_drew)); exact (yar (yav (p := ⟨b0, 2, none⟩) (yav (p := ⟨b0, 1, none⟩) (yav (p := ⟨b0, 0, none⟩) (yba a5.out a7.out (by decide)) (fun _ hk => hk.2) (.slice d7 b4.length d8)) (fun _ hk => hk.2) (.string b8)) (fun _ hk => hk.2) (.int .i64 (rd y110 b6))) (fun _ h_ => h_.1))) (by decide)) hk (fun _ h => h.2)) (fun _ h => h.1)); replace a9 := yaa (yar (yat (yaq (show IsS77 w0 _ g s0_0 c1 from by repeat (with_reducible first | exact HI0.out | apply yac | apply yad | apply yag | apply yae | refine yab ?_ a3.out _ | refine yab ?_ a6.out _)) (by (with_reducible repeat (first | apply Kd.R_alloc | apply Kd.R_drewN | apply Kd.R_drew)); exact (yar (yav (p := ⟨b0, 2, none⟩) (yav (p := ⟨b0, 1, none⟩) (yav (p := ⟨b0, 0, none⟩) (yba a9.out a7.out (by decide)) (fun _ hk => hk.2) (.slice d7 b4.length d8)) (fun _ hk => hk.2) (.string b8)) (fun _ hk => hk.2) (.int .i64 (rd y110 b6))) (fun _ h_ => h_.1))) (by decide)) hk (fun _ h => h.2)) (fun _ h => h.1)); replace a7 := yaa (yas hk (g' := b0) (o := .cells #[.slice d7 b4.length d8, .string b8, .int .i64 (rd y110 b6)] 25 (0, 0)) (by (repeat refine oneB ?_); refine blk_put (cs := #[.slice d7 b4.length d8, .string b8, .int .i64 0]) ?_ 2 _ rfl; refine blk_put (cs := #[.slice d7 b4.length d8, .string (⟨#[]⟩ : ByteArray), .int .i64 0]) ?_ 1 _ rfl; refine blk_put (cs := #[.slice none 0 0, .string (⟨#[]⟩ : ByteArray), .int .i64 0]) ?_ 0 _ rfl; exact upB a7.out) b5.out (by simp)); replace HK := yaa (yam (by repeat (with_reducible first | exact HK.out | apply yaf | apply yai | apply yal | apply yaj | refine yan ?_ a8.out _ | refine yan ?_ b7.out _)) hk (.inl rfl)); replace HB := yaa (hb); replace HI0 := yaa (hi); (try clear hb hk hi)) | ((with_reducible refine gc_ 27 rfl ?_); refine gl_ (some 22) rfl Tryz.func27 #[.pointer (some ⟨g, 0, none⟩), .int .i64 3] ?_; (with_reducible refine (spec_l20Rd_pick.calls k g s0_0 c6 3 f4 c3 w0 _ ?side1 ?side2 A11.out).mono ?_); (case side1 => repeat (with_reducible first | exact HI0.out | apply yac | apply yad | apply yag | apply yae | refine yab ?_ a3.out _ | refine yab ?_ a6.out _)); (case side2 => repeat (with_reducible first | exact HB.out | apply yap | apply yak | apply yao | refine yah ?_ (Aside0.out ‹_›) | refine yah ?_ (yau HI0.out))); rintro e w30 ⟨rfl, hi, hb, hk⟩; refine ⟨_, rfl, ?_⟩; replace a4 := yaa (yas hk (upB a4.out) b1.out (by simp)); replace a5 := yaa (yar (yat (yaq (show IsS77 w0 _ g s0_0 c6 from by repeat (with_reducible first | exact HI0.out | apply yac | apply yad | apply yag | apply yae | refine yab ?_ a3.out _ | refine yab ?_ a6.out _)) (upR a5.out) (by decide)) hk (fun _ h => h.2)) (fun _ h => h.1)); replace a9 := yaa (yar (yat (yaq (show IsS77 w0 _ g s0_0 c6 from by repeat (with_reducible first | exact HI0.out | apply yac | apply yad | apply yag | apply yae | refine yab ?_ a3.out _ | refine yab ?_ a6.out _)) (upR a9.out) (by decide)) hk (fun _ h => h.2)) (fun _ h => h.1)); replace a7 := yaa (yas hk (upB a7.out) b5.out (by simp)); replace HK := yaa (yam (by repeat (with_reducible first | exact HK.out | apply yaf | apply yai | apply yal | apply yaj | refine yan ?_ a8.out _ | refine yan ?_ b7.out _)) hk (.inl rfl)); replace HB := yaa (hb); replace HI0 := yaa (hi); (try clear hb hk hi)) | ((with_reducible refine gd_ 32 rfl ?_); refine Kd.R_lit Kd.string _ 9 ?hg (N := 32) ?hd (xs := ([(⟨#[]⟩ : ByteArray), (⟨#[97, 98, 99, 100, 101, 102, 103]⟩ : ByteArray), (⟨#[65]⟩ : ByteArray), (⟨#[97, 32, 98]⟩ : ByteArray)] : List ByteArray)) (inner := [.string (⟨#[]⟩ : ByteArray), .string (⟨#[97, 98, 99, 100, 101, 102, 103]⟩ : ByteArray), .string (⟨#[65]⟩ : ByteArray), .string (⟨#[97, 32, 98]⟩ : ByteArray)]) (ok := fun _ => True) (okp := fun _ => True) ?hr ?hp (fun _ hk => hk) trivial (Below.refl _ _) (Nat.le_refl _) (by simp) ?_; (case hd => rfl); (case hg => rfl); (case hr => first | (go_simp; done) | (go_simp; rfl)); (case hp => exact (Reps.one (show Kd.M Kd.string _ _ _ (⟨#[]⟩ : ByteArray) [.string (⟨#[]⟩ : ByteArray)] from rfl) (Reps.one (show Kd.M Kd.string _ _ _ (⟨#[97, 98, 99, 100, 101, 102, 103]⟩ : ByteArray) [.string (⟨#[97, 98, 99, 100, 101, 102, 103]⟩ : ByteArray)] from rfl) (Reps.one (show Kd.M Kd.string _ _ _ (⟨#[65]⟩ : ByteArray) [.string (⟨#[65]⟩ : ByteArray)] from rfl) (Reps.one (show Kd.M Kd.string _ _ _ (⟨#[97, 32, 98]⟩ : ByteArray) [.string (⟨#[97, 32, 98]⟩ : ByteArray)] from rfl) (Reps.none _ _)))))); intro u2 w31 f8 hb hg_ hnew_; clear hg_ hnew_; (first | rw [← Ny121.out] at f8 | (simp only [Int.reduceToNat] at f8; rw [← Ny121.out] at f8)); replace a5 := yaa (yaz (upR a5.out) hb); replace a9 := yaa (yaz (upR a9.out) hb); have e9 := yaa (Kd.R_lower f8 (yax (w := w) (g := g) (row := none) (by repeat (with_reducible first | exact HK.out | apply yaf | apply yai | apply yal | apply yaj | refine yan ?_ a8.out _ | refine yan ?_ b7.out _)))); replace a4 := yaa (blk_below (upB a4.out) hb); replace a7 := yaa (blk_below (upB a7.out) hb); replace HK := yaa (yam (by repeat (with_reducible first | exact HK.out | apply yaf | apply yai | apply yal | apply yaj | refine yan ?_ a8.out _ | refine yan ?_ b7.out _)) (yaw hb g none) (.inl rfl)); replace HB := yaa (below_step (by repeat (with_reducible first | exact HB.out | apply yap | apply yak | apply yao | refine yah ?_ (Aside0.out ‹_›) | refine yah ?_ (yau HI0.out))) hb); replace HI0 := yaa (yay (by repeat (with_reducible first | exact HI0.out | apply yac | apply yad | apply yag | apply yae | refine yab ?_ a3.out _ | refine yab ?_ a6.out _)) hb); clear hb f8) | ((with_reducible refine gc_ 27 rfl ?_); refine gl_ (some 34) rfl Tryz.func27 #[.pointer (some ⟨g, 0, none⟩), .int .i64 4] ?_; (with_reducible refine (spec_l20Rd_pick.calls k g s0_0 c3 4 d2 p7 w0 _ ?side1 ?side2 A13.out).mono ?_); (case side1 => repeat (with_reducible first | exact HI0.out | apply yac | apply yad | apply yag | apply yae | refine yab ?_ a3.out _ | refine yab ?_ a6.out _)); (case side2 => repeat (with_reducible first | exact HB.out | apply yap | apply yak | apply yao | refine yah ?_ (Aside0.out ‹_›) | refine yah ?_ (yau HI0.out))); rintro e w33 ⟨rfl, hi, hb, hk⟩; refine ⟨_, rfl, ?_⟩; replace a4 := yaa (yas hk (upB a4.out) b1.out (by simp)); replace a5 := yaa (yar (yat (yaq (show IsS77 w0 _ g s0_0 c3 from by repeat (with_reducible first | exact HI0.out | apply yac | apply yad | apply yag | apply yae | refine yab ?_ a3.out _ | refine yab ?_ a6.out _)) (upR a5.out) (by decide)) hk (fun _ h => h.2)) (fun _ h => h.1)); replace a9 := yaa (yar (yat (yaq (show IsS77 w0 _ g s0_0 c3 from by repeat (with_reducible first | exact HI0.out | apply yac | apply yad | apply yag | apply yae | refine yab ?_ a3.out _ | refine yab ?_ a6.out _)) (upR a9.out) (by decide)) hk (fun _ h => h.2)) (fun _ h => h.1)); replace a7 := yaa (yas hk (upB a7.out) b5.out (by simp)); replace e9 := yaa (yar (yat (yaq (show IsS77 w0 _ g s0_0 c3 from by repeat (with_reducible first | exact HI0.out | apply yac | apply yad | apply yag | apply yae | refine yab ?_ a3.out _ | refine yab ?_ a6.out _)) (upR e9.out) (by decide)) hk (fun _ h => h.2)) (fun _ h => h.1)); replace HK := yaa (yam (by repeat (with_reducible first | exact HK.out | apply yaf | apply yai | apply yal | apply yaj | refine yan ?_ a8.out _ | refine yan ?_ b7.out _)) hk (.inl rfl)); replace HB := yaa (hb); replace HI0 := yaa (hi); (try clear hb hk hi); obtain ⟨u3, u4, q0⟩ := Kd.R_slice e9.out; subst q0; have p126 : 0 ≤ (d2 : Int) := of_decide_eq_true (by assumption); have q126 : d2 < (y121.length : Int) := of_decide_eq_true (by assumption); obtain ⟨ad126, q1, k4⟩ := Kd.at_string (Kd.R_reads' e9.out).2.2 d2 p126 q126; cases q1; replace p126 := eq_true p126; replace q126 := eq_true q126; obtain ⟨k5, k6, k7⟩ := cc3_ a7.out; obtain ⟨k8, k9, l0⟩ := cf3_ a7.out; have s3 := b1.out; have s4 := a3.out; obtain ⟨l1, l2, l3⟩ := cc3_ a4.out; obtain ⟨l4, l5⟩ := cf2_ a4.out; have l6 := blk_frozen a4.out 2))
    refine bodyPost_ret (results_cell_row rfl _ _ b3 25 #[.slice d7 b4.length d8, .string (rdOf ByteArray.empty y121 d2), .int .i64 (rd y110 b6)] (0, 0) _ rfl (by (repeat refine oneB ?_); refine blk_put (cs := #[.slice d7 b4.length d8, .string (rdOf ByteArray.empty y121 d2), .int .i64 0]) ?_ 2 _ rfl; refine blk_put (cs := #[.slice d7 b4.length d8, .string (⟨#[]⟩ : ByteArray), .int .i64 0]) ?_ 1 _ rfl; refine blk_put (cs := #[.slice none 0 0, .string (⟨#[]⟩ : ByteArray), .int .i64 0]) ?_ 0 _ rfl; (repeat refine oneB ?_); refine blk_far ?_ b2.out _; exact upB a4.out) Tryz.underlying25 rfl (by kernel_rfl)) rfl ?_
    exact ⟨_, by first | rfl | (simp [*, errW_none, errW_some] <;> rfl), by (with_reducible repeat (first | apply Kd.R_alloc | apply Kd.R_drewN | apply Kd.R_drew)); exact yar (yav (p := ⟨b3, 2, none⟩) (yav (p := ⟨b3, 1, none⟩) (yav (p := ⟨b3, 0, none⟩) (yav (p := ⟨b0, 1, none⟩) (yba (yba a5.out a7.out (by decide)) a4.out (by decide)) (fun _ hk => hk.1.2) (.string (rdOf ByteArray.empty y121 d2))) (fun _ hk => hk.2) (.slice d7 b4.length d8)) (fun _ hk => hk.2) (.string (rdOf ByteArray.empty y121 d2))) (fun _ hk => hk.2) (.int .i64 (rd y110 b6))) (fun _ hk => trivial), by repeat (with_reducible first | exact HI0.out | apply yac | apply yad | apply yag | apply yae | refine yab ?_ a3.out _ | refine yab ?_ a6.out _), by repeat (with_reducible first | exact HB.out | apply yap | apply yak | apply yao | refine yah ?_ (Aside0.out ‹_›) | refine yah ?_ (yau HI0.out)), by repeat (with_reducible first | exact HK.out | apply yaf | apply yai | apply yal | apply yaj | refine yan ?_ a8.out _ | refine yan ?_ b7.out _)⟩
   rw [if_neg c15] at H
   exact absurd H (by simp)
  rw [if_neg c14] at H
  exact absurd H (by simp)
 rw [if_neg c12] at H
 have h4 := beq_eq_false_iff_ne.mpr c12; have h5 := bne_iff_ne.mpr c12
 by_cases c38 : f4 = 1
 ·
  rw [if_pos c38] at H
  have h6 := beq_iff_eq.mpr c38; have h7 := bne_eq_false_iff_eq.mpr c38; clear c38; obtain ⟨y127, hy127⟩ : ∃ y_ : List Int, y_ = (([(-1), 10000] : List Int)) := ⟨_, rfl⟩
  replace H : ((spec_l20Rd_pick.f k s0_0 c3 2).bind fun c5 => (if 0 ≤ c5.1 then (if c5.1 < (y127.length : Int) then (some (b4, b8, rd y127 c5.1, c5.2)) else (none)) else (none))) = some (r1, r2, r3, r4) := by first | (rw [hy127]; with_reducible exact H) | (have H2_ := (Option.bind_some _ _).symm.trans H; rw [hy127]; with_reducible exact H2_) | (have H2_ := (Option.bind_some _ _).symm.trans H; with_reducible exact H2_) | with_reducible exact H | (rw [hy127]; exact H) | exact H
  have Ny127 := yaa hy127; clear hy127; obtain ⟨⟨d9, q2⟩, A39, H⟩ := bindA H; (try dsimp only at H)
  by_cases c40 : 0 ≤ d9
  ·
   rw [if_pos c40] at H
   replace c40 := decide_eq_true c40
   by_cases c41 : d9 < (y127.length : Int)
   ·
    rw [if_pos c41] at H
    replace c41 := decide_eq_true c41
    simp only [Option.some.injEq, Prod.mk.injEq] at H
    obtain ⟨rfl, rfl, rfl, rfl⟩ := H
    go_enter Tryz.func19, Tryz.ntmps19
    go_wp2_with (first | ((with_reducible refine gd_ 4 rfl ?_); refine bx_ 4 rfl #[.slice none 0 0, .string (⟨#[]⟩ : ByteArray), .int .i64 0] 25 ?_; intro b3 hg w42 hbox hb; replace HB := yaa (below_step (by repeat (with_reducible first | exact HB.out | apply yap | apply yak | apply yao | refine yah ?_ (yau HI0.out))) hb); have a4 := yaa (hbox); have a8 := yaa ((by rw [hg]; exact (yax (w := w) (g := g) (row := none) (by repeat (with_reducible first | exact HK.out | apply yaf | apply yai | apply yal | apply yaj))) : w.heap.size ≤ b3)); have f5 := yaa ((Nat.le_trans HW0.out (by rw [hg]; exact (yax (w := w) (g := g) (row := none) (by repeat (with_reducible first | exact HK.out | apply yaf | apply yai | apply yal | apply yaj))) : w.heap.size ≤ b3) : w0.heap.size ≤ b3)); replace HK := yaa (yam (by repeat (with_reducible first | exact HK.out | apply yaf | apply yai | apply yal | apply yaj)) (yaw hb g none) (.inl rfl)); have a3 := yaa ((by rw [hg]; exact Nat.ne_of_lt (IsS77.lt (show IsS77 w0 _ g s0_0 s0_1 from by repeat (with_reducible first | exact HI0.out | apply yac | apply yad | apply yag | apply yae))) : g ≠ b3)); replace HI0 := yaa (yay (by repeat (with_reducible first | exact HI0.out | apply yac | apply yad | apply yag | apply yae)) hb); have b1 := yaa a3.out.symm; clear hb hbox hg) | ((with_reducible refine gc_ 41 rfl ?_); refine gl_ (some 7) rfl Tryz.func41 #[.pointer (some ⟨g, 0, none⟩), .int .i64 0] ?_; (with_reducible refine (spec_l20Ops.calls k g s0_0 s0_1 0 b4 c9 w0 _ ?side1 ?side2 A3.out).mono ?_); (case side1 => repeat (with_reducible first | exact HI0.out | apply yac | apply yad | apply yag | apply yae | refine yab ?_ a3.out _)); (case side2 => repeat (with_reducible first | exact HB.out | apply yap | apply yak | apply yao | refine yah ?_ (Aside0.out ‹_›) | refine yah ?_ (yau HI0.out))); rintro e w43 ⟨h2, rfl, ho0, hi, hb, hk⟩; refine ⟨_, rfl, ?_⟩; replace a4 := yaa (yas hk (upB a4.out) b1.out (by simp)); have a5 := yaa (Kd.R_lower ho0 (yax (w := w) (g := g) (row := none) (by repeat (with_reducible first | exact HK.out | apply yaf | apply yai | apply yal | apply yaj | refine yan ?_ a8.out _)))); replace HK := yaa (yam (by repeat (with_reducible first | exact HK.out | apply yaf | apply yai | apply yal | apply yaj | refine yan ?_ a8.out _)) hk (.inl rfl)); replace HB := yaa (hb); replace HI0 := yaa (hi); (try clear hb hk hi ho0)) | ((with_reducible refine gc_ 42 rfl ?_); refine gl_ (some 9) rfl Tryz.func42 #[.pointer (some ⟨g, 0, none⟩)] ?_; (with_reducible refine (spec_l20Path.calls k g s0_0 c9 b8 d0 w0 _ ?side1 ?side2 A4.out).mono ?_); (case side1 => repeat (with_reducible first | exact HI0.out | apply yac | apply yad | apply yag | apply yae | refine yab ?_ a3.out _)); (case side2 => repeat (with_reducible first | exact HB.out | apply yap | apply yak | apply yao | refine yah ?_ (Aside0.out ‹_›) | refine yah ?_ (yau HI0.out))); rintro e w44 ⟨rfl, hi, hb, hk⟩; refine ⟨_, rfl, ?_⟩; replace a4 := yaa (yas hk (upB a4.out) b1.out (by simp)); replace a5 := yaa (yar (yat (yaq (show IsS77 w0 _ g s0_0 c9 from by repeat (with_reducible first | exact HI0.out | apply yac | apply yad | apply yag | apply yae | refine yab ?_ a3.out _)) (upR a5.out) (by decide)) hk (fun _ h => h.2)) (fun _ h => h.1)); replace HK := yaa (yam (by repeat (with_reducible first | exact HK.out | apply yaf | apply yai | apply yal | apply yaj | refine yan ?_ a8.out _)) hk (.inl rfl)); replace HB := yaa (hb); replace HI0 := yaa (hi); (try clear hb hk hi)) | ((with_reducible refine gc_ 27 rfl ?_); refine gl_ (some 11) rfl Tryz.func27 #[.pointer (some ⟨g, 0, none⟩), .int .i64 80] ?_; (with_reducible refine (spec_l20Rd_pick.calls k g s0_0 d0 80 c0 c2 w0 _ ?side1 ?side2 A5.out).mono ?_); (case side1 => repeat (with_reducible first | exact HI0.out | apply yac | apply yad | apply yag | apply yae | refine yab ?_ a3.out _)); (case side2 => repeat (with_reducible first | exact HB.out | apply yap | apply yak | apply yao | refine yah ?_ (Aside0.out ‹_›) | refine yah ?_ (yau HI0.out))); rintro e w45 ⟨rfl, hi, hb, hk⟩; refine ⟨_, rfl, ?_⟩; replace a4 := yaa (yas hk (upB a4.out) b1.out (by simp)); replace a5 := yaa (yar (yat (yaq (show IsS77 w0 _ g s0_0 d0 from by repeat (with_reducible first | exact HI0.out | apply yac | apply yad | apply yag | apply yae | refine yab ?_ a3.out _)) (upR a5.out) (by decide)) hk (fun _ h => h.2)) (fun _ h => h.1)); replace HK := yaa (yam (by repeat (with_reducible first | exact HK.out | apply yaf | apply yai | apply yal | apply yaj | refine yan ?_ a8.out _)) hk (.inl rfl)); replace HB := yaa (hb); replace HI0 := yaa (hi); (try clear hb hk hi)) | ((with_reducible refine gd_ 12 rfl ?_); refine Kd.R_lit (Kd.int .i64) _ 3 ?hg (N := 12) ?hd (xs := ([9999, c0] : List Int)) (inner := [.int .i64 9999, .int .i64 c0]) (ok := fun _ => True) (okp := fun _ => True) ?hr ?hp (fun _ hk => hk) trivial (Below.refl _ _) (Nat.le_refl _) (by simp) ?_; (case hd => rfl); (case hg => rfl); (case hr => first | (go_simp; done) | (go_simp; rfl)); (case hp => exact (Reps.one (show Kd.M (Kd.int .i64) _ _ _ 9999 [.int .i64 9999] from rfl) (Reps.one (show Kd.M (Kd.int .i64) _ _ _ c0 [.int .i64 c0] from rfl) (Reps.none _ _)))); intro h3 w46 f9 hb hg_ hnew_; clear hg_ hnew_; (first | rw [← Ny110.out] at f9 | (simp only [Int.reduceToNat] at f9; rw [← Ny110.out] at f9)); replace a5 := yaa (yaz (upR a5.out) hb); have a9 := yaa (Kd.R_lower f9 (yax (w := w) (g := g) (row := none) (by repeat (with_reducible first | exact HK.out | apply yaf | apply yai | apply yal | apply yaj | refine yan ?_ a8.out _)))); replace a4 := yaa (blk_below (upB a4.out) hb); replace HK := yaa (yam (by repeat (with_reducible first | exact HK.out | apply yaf | apply yai | apply yal | apply yaj | refine yan ?_ a8.out _)) (yaw hb g none) (.inl rfl)); replace HB := yaa (below_step (by repeat (with_reducible first | exact HB.out | apply yap | apply yak | apply yao | refine yah ?_ (Aside0.out ‹_›) | refine yah ?_ (yau HI0.out))) hb); replace HI0 := yaa (yay (by repeat (with_reducible first | exact HI0.out | apply yac | apply yad | apply yag | apply yae | refine yab ?_ a3.out _)) hb); clear hb f9) | ((with_reducible refine gc_ 27 rfl ?_); refine gl_ (some 14) rfl Tryz.func27 #[.pointer (some ⟨g, 0, none⟩), .int .i64 2] ?_; (with_reducible refine (spec_l20Rd_pick.calls k g s0_0 c2 2 b6 c1 w0 _ ?side1 ?side2 A6.out).mono ?_); (case side1 => repeat (with_reducible first | exact HI0.out | apply yac | apply yad | apply yag | apply yae | refine yab ?_ a3.out _)); (case side2 => repeat (with_reducible first | exact HB.out | apply yap | apply yak | apply yao | refine yah ?_ (Aside0.out ‹_›) | refine yah ?_ (yau HI0.out))); rintro e w48 ⟨rfl, hi, hb, hk⟩; refine ⟨_, rfl, ?_⟩; replace a4 := yaa (yas hk (upB a4.out) b1.out (by simp)); replace a5 := yaa (yar (yat (yaq (show IsS77 w0 _ g s0_0 c2 from by repeat (with_reducible first | exact HI0.out | apply yac | apply yad | apply yag | apply yae | refine yab ?_ a3.out _)) (upR a5.out) (by decide)) hk (fun _ h => h.2)) (fun _ h => h.1)); replace a9 := yaa (yar (yat (yaq (show IsS77 w0 _ g s0_0 c2 from by repeat (with_reducible first | exact HI0.out | apply yac | apply yad | apply yag | apply yae | refine yab ?_ a3.out _)) (upR a9.out) (by decide)) hk (fun _ h => h.2)) (fun _ h => h.1)); replace HK := yaa (yam (by repeat (with_reducible first | exact HK.out | apply yaf | apply yai | apply yal | apply yaj | refine yan ?_ a8.out _)) hk (.inl rfl)); replace HB := yaa (hb); replace HI0 := yaa (hi); (try clear hb hk hi); obtain ⟨u5, u6, q3⟩ := Kd.R_slice a9.out; subst q3; have p115 : 0 ≤ (b6 : Int) := of_decide_eq_true (by assumption); have q115 : b6 < (y110.length : Int) := of_decide_eq_true (by assumption); obtain ⟨ad115, e7, d6⟩ := Kd.at_int (Kd.R_reads' a9.out).2.2 b6 p115 q115; cases e7; replace p115 := eq_true p115; replace q115 := eq_true q115; obtain ⟨e0, e1, q4⟩ := Kd.R_slice a5.out; subst q4) | ((with_reducible refine gd_ 5 rfl ?_); refine bx_ 5 rfl #[.slice none 0 0, .string (⟨#[]⟩ : ByteArray), .int .i64 0] 25 ?_; intro b0 hg w51 hbox hb; replace a5 := yaa (yaz (upR a5.out) hb); replace a9 := yaa (yaz (upR a9.out) hb); replace HB := yaa (below_step (by repeat (with_reducible first | exact HB.out | apply yap | apply yak | apply yao | refine yah ?_ (Aside0.out ‹_›) | refine yah ?_ (yau HI0.out))) hb); have a7 := yaa (hbox); have b7 := yaa ((by rw [hg]; exact (yax (w := w) (g := g) (row := none) (by repeat (with_reducible first | exact HK.out | apply yaf | apply yai | apply yal | apply yaj | refine yan ?_ a8.out _))) : w.heap.size ≤ b0)); have f7 := yaa ((Nat.le_trans HW0.out (by rw [hg]; exact (yax (w := w) (g := g) (row := none) (by repeat (with_reducible first | exact HK.out | apply yaf | apply yai | apply yal | apply yaj | refine yan ?_ a8.out _))) : w.heap.size ≤ b0) : w0.heap.size ≤ b0)); replace HK := yaa (yam (by repeat (with_reducible first | exact HK.out | apply yaf | apply yai | apply yal | apply yaj | refine yan ?_ a8.out _)) (yaw hb g none) (.inl rfl)); have b2 := yaa ((by rw [hg]; exact Nat.ne_of_lt (blk_lt (upB a4.out)) : b3 ≠ b0)); replace a4 := yaa (blk_below (upB a4.out) hb); have b9 := yaa b2.out.symm; have a6 := yaa ((by rw [hg]; exact Nat.ne_of_lt (IsS77.lt (show IsS77 w0 _ g s0_0 c1 from by repeat (with_reducible first | exact HI0.out | apply yac | apply yad | apply yag | apply yae | refine yab ?_ a3.out _))) : g ≠ b0)); replace HI0 := yaa (yay (by repeat (with_reducible first | exact HI0.out | apply yac | apply yad | apply yag | apply yae | refine yab ?_ a3.out _)) hb); have b5 := yaa a6.out.symm; clear hb hbox hg; have s5 := b9.out; have s6 := b2.out; have s7 := b5.out; have s8 := a6.out; obtain ⟨l7, l8, l9⟩ := cc3_ a7.out; obtain ⟨m0, m1⟩ := cf2_ a7.out; have m2 := blk_frozen a7.out 2) | ((with_reducible refine gc_ 43 rfl ?_); refine gl_ (some 20) rfl Tryz.func43 #[.pointer (some ⟨g, 0, none⟩), .int .i64 a1] ?_; (with_reducible refine (spec_l20Rd_odd.calls k g s0_0 c1 a1 true c6 w0 _ ?side1 ?side2 A9.out).mono ?_); (case side1 => repeat (with_reducible first | exact HI0.out | apply yac | apply yad | apply yag | apply yae | refine yab ?_ a3.out _ | refine yab ?_ a6.out _)); (case side2 => repeat (with_reducible first | exact HB.out | apply yap | apply yak | apply yao | refine yah ?_ (Aside0.out ‹_›) | refine yah ?_ (yau HI0.out))); rintro e w55 ⟨rfl, hi, hb, hk⟩; refine ⟨_, rfl, ?_⟩; replace a4 := yaa (yas hk (g' := b3) (o := .cells #[.slice none 0 0, .string (⟨#[]⟩ : ByteArray), .int .i64 0] 25 (0, 0)) (by repeat (with_reducible first | exact a4.out | refine oneB ?_ | refine blk_far ?_ b2.out _)) b1.out (by simp)); replace a5 := yaa (yar (yat (yaq (show IsS77 w0 _ g s0_0 c1 from by repeat (with_reducible first | exact HI0.out | apply yac | apply yad | apply yag | apply yae | refine yab ?_ a3.out _ | refine yab ?_ a6.out _)) (by (with_reducible repeat (first | apply Kd.R_alloc | apply Kd.R_drewN | apply Kd.R_drew)); exact (yar (yav (p := ⟨b0, 2, none⟩) (yav (p := ⟨b0, 1, none⟩) (yav (p := ⟨b0, 0, none⟩) (yba a5.out a7.out (by decide)) (fun _ hk => hk.2) (.slice e0 b4.length e1)) (fun _ hk => hk.2) (.string b8)) (fun _ hk => hk.2) (.int .i64 (rd y110 b6))) (fun _ h_ => h_.1))) (by decide)) hk (fun _ h => h.2)) (fun _ h => h.1)); replace a9 := yaa (yar (yat (yaq (show IsS77 w0 _ g s0_0 c1 from by repeat (with_reducible first | exact HI0.out | apply yac | apply yad | apply yag | apply yae | refine yab ?_ a3.out _ | refine yab ?_ a6.out _)) (by (with_reducible repeat (first | apply Kd.R_alloc | apply Kd.R_drewN | apply Kd.R_drew)); exact (yar (yav (p := ⟨b0, 2, none⟩) (yav (p := ⟨b0, 1, none⟩) (yav (p := ⟨b0, 0, none⟩) (yba a9.out a7.out (by decide)) (fun _ hk => hk.2) (.slice e0 b4.length e1)) (fun _ hk => hk.2) (.string b8)) (fun _ hk => hk.2) (.int .i64 (rd y110 b6))) (fun _ h_ => h_.1))) (by decide)) hk (fun _ h => h.2)) (fun _ h => h.1)); replace a7 := yaa (yas hk (g' := b0) (o := .cells #[.slice e0 b4.length e1, .string b8, .int .i64 (rd y110 b6)] 25 (0, 0)) (by (repeat refine oneB ?_); refine blk_put (cs := #[.slice e0 b4.length e1, .string b8, .int .i64 0]) ?_ 2 _ rfl; refine blk_put (cs := #[.slice e0 b4.length e1, .string (⟨#[]⟩ : ByteArray), .int .i64 0]) ?_ 1 _ rfl; refine blk_put (cs := #[.slice none 0 0, .string (⟨#[]⟩ : ByteArray), .int .i64 0]) ?_ 0 _ rfl; exact upB a7.out) b5.out (by simp)); replace HK := yaa (yam (by repeat (with_reducible first | exact HK.out | apply yaf | apply yai | apply yal | apply yaj | refine yan ?_ a8.out _ | refine yan ?_ b7.out _)) hk (.inl rfl)); replace HB := yaa (hb); replace HI0 := yaa (hi); (try clear hb hk hi)) | ((with_reducible refine gc_ 27 rfl ?_); refine gl_ (some 22) rfl Tryz.func27 #[.pointer (some ⟨g, 0, none⟩), .int .i64 3] ?_; (with_reducible refine (spec_l20Rd_pick.calls k g s0_0 c6 3 f4 c3 w0 _ ?side1 ?side2 A11.out).mono ?_); (case side1 => repeat (with_reducible first | exact HI0.out | apply yac | apply yad | apply yag | apply yae | refine yab ?_ a3.out _ | refine yab ?_ a6.out _)); (case side2 => repeat (with_reducible first | exact HB.out | apply yap | apply yak | apply yao | refine yah ?_ (Aside0.out ‹_›) | refine yah ?_ (yau HI0.out))); rintro e w56 ⟨rfl, hi, hb, hk⟩; refine ⟨_, rfl, ?_⟩; replace a4 := yaa (yas hk (upB a4.out) b1.out (by simp)); replace a5 := yaa (yar (yat (yaq (show IsS77 w0 _ g s0_0 c6 from by repeat (with_reducible first | exact HI0.out | apply yac | apply yad | apply yag | apply yae | refine yab ?_ a3.out _ | refine yab ?_ a6.out _)) (upR a5.out) (by decide)) hk (fun _ h => h.2)) (fun _ h => h.1)); replace a9 := yaa (yar (yat (yaq (show IsS77 w0 _ g s0_0 c6 from by repeat (with_reducible first | exact HI0.out | apply yac | apply yad | apply yag | apply yae | refine yab ?_ a3.out _ | refine yab ?_ a6.out _)) (upR a9.out) (by decide)) hk (fun _ h => h.2)) (fun _ h => h.1)); replace a7 := yaa (yas hk (upB a7.out) b5.out (by simp)); replace HK := yaa (yam (by repeat (with_reducible first | exact HK.out | apply yaf | apply yai | apply yal | apply yaj | refine yan ?_ a8.out _ | refine yan ?_ b7.out _)) hk (.inl rfl)); replace HB := yaa (hb); replace HI0 := yaa (hi); (try clear hb hk hi)) | ((with_reducible refine gd_ 40 rfl ?_); refine Kd.R_lit (Kd.int .i64) _ 3 ?hg (N := 40) ?hd (xs := ([(-1), 10000] : List Int)) (inner := [.int .i64 (-1), .int .i64 10000]) (ok := fun _ => True) (okp := fun _ => True) ?hr ?hp (fun _ hk => hk) trivial (Below.refl _ _) (Nat.le_refl _) (by simp) ?_; (case hd => rfl); (case hg => rfl); (case hr => first | (go_simp; done) | (go_simp; rfl)); (case hp => exact (Reps.one (show Kd.M (Kd.int .i64) _ _ _ (-1) [.int .i64 (-1)] from rfl) (Reps.one (show Kd.M (Kd.int .i64) _ _ _ 10000 [.int .i64 10000] from rfl) (Reps.none _ _)))); intro u7 w57 f2 hb hg_ hnew_; clear hg_ hnew_; (first | rw [← Ny127.out] at f2 | (simp only [Int.reduceToNat] at f2; rw [← Ny127.out] at f2)); replace a5 := yaa (yaz (upR a5.out) hb); have f0 := yaa (Kd.R_lower (Kd.R_new' f2 (Kd.R_lt (upR a9.out))) (yax (w := w) (g := g) (row := none) (by repeat (with_reducible first | exact HK.out | apply yaf | apply yai | apply yal | apply yaj | refine yan ?_ a8.out _ | refine yan ?_ b7.out _)))); replace a9 := yaa (Kd.R_elder' (upR a9.out) (Kd.R_base f2) hb); replace a4 := yaa (blk_below (upB a4.out) hb); replace a7 := yaa (blk_below (upB a7.out) hb); replace HK := yaa (yam (by repeat (with_reducible first | exact HK.out | apply yaf | apply yai | apply yal | apply yaj | refine yan ?_ a8.out _ | refine yan ?_ b7.out _)) (yaw hb g none) (.inl rfl)); replace HB := yaa (below_step (by repeat (with_reducible first | exact HB.out | apply yap | apply yak | apply yao | refine yah ?_ (Aside0.out ‹_›) | refine yah ?_ (yau HI0.out))) hb); replace HI0 := yaa (yay (by repeat (with_reducible first | exact HI0.out | apply yac | apply yad | apply yag | apply yae | refine yab ?_ a3.out _ | refine yab ?_ a6.out _)) hb); clear hb f2) | ((with_reducible refine gc_ 27 rfl ?_); refine gl_ (some 42) rfl Tryz.func27 #[.pointer (some ⟨g, 0, none⟩), .int .i64 2] ?_; (with_reducible refine (spec_l20Rd_pick.calls k g s0_0 c3 2 d9 q2 w0 _ ?side1 ?side2 A39.out).mono ?_); (case side1 => repeat (with_reducible first | exact HI0.out | apply yac | apply yad | apply yag | apply yae | refine yab ?_ a3.out _ | refine yab ?_ a6.out _)); (case side2 => repeat (with_reducible first | exact HB.out | apply yap | apply yak | apply yao | refine yah ?_ (Aside0.out ‹_›) | refine yah ?_ (yau HI0.out))); rintro e w59 ⟨rfl, hi, hb, hk⟩; refine ⟨_, rfl, ?_⟩; replace a4 := yaa (yas hk (upB a4.out) b1.out (by simp)); replace a5 := yaa (yar (yat (yaq (show IsS77 w0 _ g s0_0 c3 from by repeat (with_reducible first | exact HI0.out | apply yac | apply yad | apply yag | apply yae | refine yab ?_ a3.out _ | refine yab ?_ a6.out _)) (upR a5.out) (by decide)) hk (fun _ h => h.2)) (fun _ h => h.1)); replace a9 := yaa (yar (yat (yaq (show IsS77 w0 _ g s0_0 c3 from by repeat (with_reducible first | exact HI0.out | apply yac | apply yad | apply yag | apply yae | refine yab ?_ a3.out _ | refine yab ?_ a6.out _)) (upR a9.out) (by decide)) hk (fun _ h => h.2)) (fun _ h => h.1)); replace a7 := yaa (yas hk (upB a7.out) b5.out (by simp)); replace f0 := yaa (yar (yat (yaq (show IsS77 w0 _ g s0_0 c3 from by repeat (with_reducible first | exact HI0.out | apply yac | apply yad | apply yag | apply yae | refine yab ?_ a3.out _ | refine yab ?_ a6.out _)) (upR f0.out) (by decide)) hk (fun _ h => h.2)) (fun _ h => h.1)); replace HK := yaa (yam (by repeat (with_reducible first | exact HK.out | apply yaf | apply yai | apply yal | apply yaj | refine yan ?_ a8.out _ | refine yan ?_ b7.out _)) hk (.inl rfl)); replace HB := yaa (hb); replace HI0 := yaa (hi); (try clear hb hk hi); obtain ⟨u8, u9, q5⟩ := Kd.R_slice f0.out; subst q5; have p132 : 0 ≤ (d9 : Int) := of_decide_eq_true (by assumption); have q132 : d9 < (y127.length : Int) := of_decide_eq_true (by assumption); obtain ⟨ad132, q6, m3⟩ := Kd.at_int (Kd.R_reads' f0.out).2.2 d9 p132 q132; cases q6; replace p132 := eq_true p132; replace q132 := eq_true q132; obtain ⟨m4, m5, m6⟩ := cc3_ a7.out; obtain ⟨m7, m8, m9⟩ := cf3_ a7.out; have s9 := b1.out; have t0 := a3.out; obtain ⟨n0, n1, n2⟩ := cc3_ a4.out; obtain ⟨n3, n4⟩ := cf2_ a4.out; have n5 := blk_frozen a4.out 2))
    refine bodyPost_ret (results_cell_row rfl _ _ b3 25 #[.slice e0 b4.length e1, .string b8, .int .i64 (rd y127 d9)] (0, 0) _ rfl (by (repeat refine oneB ?_); refine blk_put (cs := #[.slice e0 b4.length e1, .string b8, .int .i64 0]) ?_ 2 _ rfl; refine blk_put (cs := #[.slice e0 b4.length e1, .string (⟨#[]⟩ : ByteArray), .int .i64 0]) ?_ 1 _ rfl; refine blk_put (cs := #[.slice none 0 0, .string (⟨#[]⟩ : ByteArray), .int .i64 0]) ?_ 0 _ rfl; (repeat refine oneB ?_); refine blk_far ?_ b2.out _; exact upB a4.out) Tryz.underlying25 rfl (by kernel_rfl)) rfl ?_
    exact ⟨_, by first | rfl | (simp [*, errW_none, errW_some] <;> rfl), by (with_reducible repeat (first | apply Kd.R_alloc | apply Kd.R_drewN | apply Kd.R_drew)); exact yar (yav (p := ⟨b3, 2, none⟩) (yav (p := ⟨b3, 1, none⟩) (yav (p := ⟨b3, 0, none⟩) (yav (p := ⟨b0, 2, none⟩) (yba (yba a5.out a7.out (by decide)) a4.out (by decide)) (fun _ hk => hk.1.2) (.int .i64 (rd y127 d9))) (fun _ hk => hk.2) (.slice e0 b4.length e1)) (fun _ hk => hk.2) (.string b8)) (fun _ hk => hk.2) (.int .i64 (rd y127 d9))) (fun _ hk => trivial), by repeat (with_reducible first | exact HI0.out | apply yac | apply yad | apply yag | apply yae | refine yab ?_ a3.out _ | refine yab ?_ a6.out _), by repeat (with_reducible first | exact HB.out | apply yap | apply yak | apply yao | refine yah ?_ (Aside0.out ‹_›) | refine yah ?_ (yau HI0.out)), by repeat (with_reducible first | exact HK.out | apply yaf | apply yai | apply yal | apply yaj | refine yan ?_ a8.out _ | refine yan ?_ b7.out _)⟩
   rw [if_neg c41] at H
   exact absurd H (by simp)
  rw [if_neg c40] at H
  exact absurd H (by simp)
 rw [if_neg c38] at H
 have h6 := beq_eq_false_iff_ne.mpr c38; have h7 := bne_iff_ne.mpr c38; obtain ⟨⟨g0, g1, g2, g3, g4, h8⟩, A64, H⟩ := bindA H; (try dsimp only at H)
 by_cases c65 : b4.length < 3518437208883
 rotate_left
 ·
  rw [if_neg c65] at H
  exact absurd H (by simp)
 rw [if_pos c65] at H
 have LMc65 := yaa c65; clear c65; obtain ⟨y139, hy139⟩ : ∃ y_ : List (S65), y_ = (b4 ++ [(⟨g0, g1, g2, g3, g4⟩ : S65)]) := ⟨_, rfl⟩
 replace H : (some (y139, b8, rd y110 b6, h8)) = some (r1, r2, r3, r4) := by first | (rw [hy139]; with_reducible exact H) | (have H2_ := (Option.bind_some _ _).symm.trans H; rw [hy139]; with_reducible exact H2_) | (have H2_ := (Option.bind_some _ _).symm.trans H; with_reducible exact H2_) | with_reducible exact H | (rw [hy139]; exact H) | exact H
 have Ny139 := yaa hy139; clear hy139
 simp only [Option.some.injEq, Prod.mk.injEq] at H
 obtain ⟨rfl, rfl, rfl, rfl⟩ := H
 go_enter Tryz.func19, Tryz.ntmps19
 try go_wp2_with (first | ((with_reducible refine gd_ 4 rfl ?_); refine bx_ 4 rfl #[.slice none 0 0, .string (⟨#[]⟩ : ByteArray), .int .i64 0] 25 ?_; intro b3 hg w66 hbox hb; replace HB := yaa (below_step (by repeat (with_reducible first | exact HB.out | apply yap | apply yak | apply yao | refine yah ?_ (yau HI0.out))) hb); have a4 := yaa (hbox); have a8 := yaa ((by rw [hg]; exact (yax (w := w) (g := g) (row := none) (by repeat (with_reducible first | exact HK.out | apply yaf | apply yai | apply yal | apply yaj))) : w.heap.size ≤ b3)); have f5 := yaa ((Nat.le_trans HW0.out (by rw [hg]; exact (yax (w := w) (g := g) (row := none) (by repeat (with_reducible first | exact HK.out | apply yaf | apply yai | apply yal | apply yaj))) : w.heap.size ≤ b3) : w0.heap.size ≤ b3)); replace HK := yaa (yam (by repeat (with_reducible first | exact HK.out | apply yaf | apply yai | apply yal | apply yaj)) (yaw hb g none) (.inl rfl)); have a3 := yaa ((by rw [hg]; exact Nat.ne_of_lt (IsS77.lt (show IsS77 w0 _ g s0_0 s0_1 from by repeat (with_reducible first | exact HI0.out | apply yac | apply yad | apply yag | apply yae))) : g ≠ b3)); replace HI0 := yaa (yay (by repeat (with_reducible first | exact HI0.out | apply yac | apply yad | apply yag | apply yae)) hb); have b1 := yaa a3.out.symm; clear hb hbox hg) | ((with_reducible refine gc_ 41 rfl ?_); refine gl_ (some 7) rfl Tryz.func41 #[.pointer (some ⟨g, 0, none⟩), .int .i64 0] ?_; (with_reducible refine (spec_l20Ops.calls k g s0_0 s0_1 0 b4 c9 w0 _ ?side1 ?side2 A3.out).mono ?_); (case side1 => repeat (with_reducible first | exact HI0.out | apply yac | apply yad | apply yag | apply yae | refine yab ?_ a3.out _)); (case side2 => repeat (with_reducible first | exact HB.out | apply yap | apply yak | apply yao | refine yah ?_ (Aside0.out ‹_›) | refine yah ?_ (yau HI0.out))); rintro e w67 ⟨h2, rfl, ho0, hi, hb, hk⟩; refine ⟨_, rfl, ?_⟩; replace a4 := yaa (yas hk (upB a4.out) b1.out (by simp)); have a5 := yaa (Kd.R_lower ho0 (yax (w := w) (g := g) (row := none) (by repeat (with_reducible first | exact HK.out | apply yaf | apply yai | apply yal | apply yaj | refine yan ?_ a8.out _)))); replace HK := yaa (yam (by repeat (with_reducible first | exact HK.out | apply yaf | apply yai | apply yal | apply yaj | refine yan ?_ a8.out _)) hk (.inl rfl)); replace HB := yaa (hb); replace HI0 := yaa (hi); (try clear hb hk hi ho0)) | ((with_reducible refine gc_ 42 rfl ?_); refine gl_ (some 9) rfl Tryz.func42 #[.pointer (some ⟨g, 0, none⟩)] ?_; (with_reducible refine (spec_l20Path.calls k g s0_0 c9 b8 d0 w0 _ ?side1 ?side2 A4.out).mono ?_); (case side1 => repeat (with_reducible first | exact HI0.out | apply yac | apply yad | apply yag | apply yae | refine yab ?_ a3.out _)); (case side2 => repeat (with_reducible first | exact HB.out | apply yap | apply yak | apply yao | refine yah ?_ (Aside0.out ‹_›) | refine yah ?_ (yau HI0.out))); rintro e w68 ⟨rfl, hi, hb, hk⟩; refine ⟨_, rfl, ?_⟩; replace a4 := yaa (yas hk (upB a4.out) b1.out (by simp)); replace a5 := yaa (yar (yat (yaq (show IsS77 w0 _ g s0_0 c9 from by repeat (with_reducible first | exact HI0.out | apply yac | apply yad | apply yag | apply yae | refine yab ?_ a3.out _)) (upR a5.out) (by decide)) hk (fun _ h => h.2)) (fun _ h => h.1)); replace HK := yaa (yam (by repeat (with_reducible first | exact HK.out | apply yaf | apply yai | apply yal | apply yaj | refine yan ?_ a8.out _)) hk (.inl rfl)); replace HB := yaa (hb); replace HI0 := yaa (hi); (try clear hb hk hi)) | ((with_reducible refine gc_ 27 rfl ?_); refine gl_ (some 11) rfl Tryz.func27 #[.pointer (some ⟨g, 0, none⟩), .int .i64 80] ?_; (with_reducible refine (spec_l20Rd_pick.calls k g s0_0 d0 80 c0 c2 w0 _ ?side1 ?side2 A5.out).mono ?_); (case side1 => repeat (with_reducible first | exact HI0.out | apply yac | apply yad | apply yag | apply yae | refine yab ?_ a3.out _)); (case side2 => repeat (with_reducible first | exact HB.out | apply yap | apply yak | apply yao | refine yah ?_ (Aside0.out ‹_›) | refine yah ?_ (yau HI0.out))); rintro e w69 ⟨rfl, hi, hb, hk⟩; refine ⟨_, rfl, ?_⟩; replace a4 := yaa (yas hk (upB a4.out) b1.out (by simp)); replace a5 := yaa (yar (yat (yaq (show IsS77 w0 _ g s0_0 d0 from by repeat (with_reducible first | exact HI0.out | apply yac | apply yad | apply yag | apply yae | refine yab ?_ a3.out _)) (upR a5.out) (by decide)) hk (fun _ h => h.2)) (fun _ h => h.1)); replace HK := yaa (yam (by repeat (with_reducible first | exact HK.out | apply yaf | apply yai | apply yal | apply yaj | refine yan ?_ a8.out _)) hk (.inl rfl)); replace HB := yaa (hb); replace HI0 := yaa (hi); (try clear hb hk hi)) | ((with_reducible refine gd_ 12 rfl ?_); refine Kd.R_lit (Kd.int .i64) _ 3 ?hg (N := 12) ?hd (xs := ([9999, c0] : List Int)) (inner := [.int .i64 9999, .int .i64 c0]) (ok := fun _ => True) (okp := fun _ => True) ?hr ?hp (fun _ hk => hk) trivial (Below.refl _ _) (Nat.le_refl _) (by simp) ?_; (case hd => rfl); (case hg => rfl); (case hr => first | (go_simp; done) | (go_simp; rfl)); (case hp => exact (Reps.one (show Kd.M (Kd.int .i64) _ _ _ 9999 [.int .i64 9999] from rfl) (Reps.one (show Kd.M (Kd.int .i64) _ _ _ c0 [.int .i64 c0] from rfl) (Reps.none _ _)))); intro h3 w70 g5 hb hg_ hnew_; clear hg_ hnew_; (first | rw [← Ny110.out] at g5 | (simp only [Int.reduceToNat] at g5; rw [← Ny110.out] at g5)); replace a5 := yaa (yaz (upR a5.out) hb); have a9 := yaa (Kd.R_lower g5 (yax (w := w) (g := g) (row := none) (by repeat (with_reducible first | exact HK.out | apply yaf | apply yai | apply yal | apply yaj | refine yan ?_ a8.out _)))); replace a4 := yaa (blk_below (upB a4.out) hb); replace HK := yaa (yam (by repeat (with_reducible first | exact HK.out | apply yaf | apply yai | apply yal | apply yaj | refine yan ?_ a8.out _)) (yaw hb g none) (.inl rfl)); replace HB := yaa (below_step (by repeat (with_reducible first | exact HB.out | apply yap | apply yak | apply yao | refine yah ?_ (Aside0.out ‹_›) | refine yah ?_ (yau HI0.out))) hb); replace HI0 := yaa (yay (by repeat (with_reducible first | exact HI0.out | apply yac | apply yad | apply yag | apply yae | refine yab ?_ a3.out _)) hb); clear hb g5) | ((with_reducible refine gc_ 27 rfl ?_); refine gl_ (some 14) rfl Tryz.func27 #[.pointer (some ⟨g, 0, none⟩), .int .i64 2] ?_; (with_reducible refine (spec_l20Rd_pick.calls k g s0_0 c2 2 b6 c1 w0 _ ?side1 ?side2 A6.out).mono ?_); (case side1 => repeat (with_reducible first | exact HI0.out | apply yac | apply yad | apply yag | apply yae | refine yab ?_ a3.out _)); (case side2 => repeat (with_reducible first | exact HB.out | apply yap | apply yak | apply yao | refine yah ?_ (Aside0.out ‹_›) | refine yah ?_ (yau HI0.out))); rintro e w72 ⟨rfl, hi, hb, hk⟩; refine ⟨_, rfl, ?_⟩; replace a4 := yaa (yas hk (upB a4.out) b1.out (by simp)); replace a5 := yaa (yar (yat (yaq (show IsS77 w0 _ g s0_0 c2 from by repeat (with_reducible first | exact HI0.out | apply yac | apply yad | apply yag | apply yae | refine yab ?_ a3.out _)) (upR a5.out) (by decide)) hk (fun _ h => h.2)) (fun _ h => h.1)); replace a9 := yaa (yar (yat (yaq (show IsS77 w0 _ g s0_0 c2 from by repeat (with_reducible first | exact HI0.out | apply yac | apply yad | apply yag | apply yae | refine yab ?_ a3.out _)) (upR a9.out) (by decide)) hk (fun _ h => h.2)) (fun _ h => h.1)); replace HK := yaa (yam (by repeat (with_reducible first | exact HK.out | apply yaf | apply yai | apply yal | apply yaj | refine yan ?_ a8.out _)) hk (.inl rfl)); replace HB := yaa (hb); replace HI0 := yaa (hi); (try clear hb hk hi); obtain ⟨v0, v1, q7⟩ := Kd.R_slice a9.out; subst q7; have p115 : 0 ≤ (b6 : Int) := of_decide_eq_true (by assumption); have q115 : b6 < (y110.length : Int) := of_decide_eq_true (by assumption); obtain ⟨ad115, e7, d6⟩ := Kd.at_int (Kd.R_reads' a9.out).2.2 b6 p115 q115; cases e7; replace p115 := eq_true p115; replace q115 := eq_true q115; obtain ⟨e5, e6, q8⟩ := Kd.R_slice a5.out; subst q8) | ((with_reducible refine gd_ 5 rfl ?_); refine bx_ 5 rfl #[.slice none 0 0, .string (⟨#[]⟩ : ByteArray), .int .i64 0] 25 ?_; intro b0 hg w75 hbox hb; replace a5 := yaa (yaz (upR a5.out) hb); replace a9 := yaa (yaz (upR a9.out) hb); replace HB := yaa (below_step (by repeat (with_reducible first | exact HB.out | apply yap | apply yak | apply yao | refine yah ?_ (Aside0.out ‹_›) | refine yah ?_ (yau HI0.out))) hb); have a7 := yaa (hbox); have b7 := yaa ((by rw [hg]; exact (yax (w := w) (g := g) (row := none) (by repeat (with_reducible first | exact HK.out | apply yaf | apply yai | apply yal | apply yaj | refine yan ?_ a8.out _))) : w.heap.size ≤ b0)); have f7 := yaa ((Nat.le_trans HW0.out (by rw [hg]; exact (yax (w := w) (g := g) (row := none) (by repeat (with_reducible first | exact HK.out | apply yaf | apply yai | apply yal | apply yaj | refine yan ?_ a8.out _))) : w.heap.size ≤ b0) : w0.heap.size ≤ b0)); replace HK := yaa (yam (by repeat (with_reducible first | exact HK.out | apply yaf | apply yai | apply yal | apply yaj | refine yan ?_ a8.out _)) (yaw hb g none) (.inl rfl)); have b2 := yaa ((by rw [hg]; exact Nat.ne_of_lt (blk_lt (upB a4.out)) : b3 ≠ b0)); replace a4 := yaa (blk_below (upB a4.out) hb); have b9 := yaa b2.out.symm; have a6 := yaa ((by rw [hg]; exact Nat.ne_of_lt (IsS77.lt (show IsS77 w0 _ g s0_0 c1 from by repeat (with_reducible first | exact HI0.out | apply yac | apply yad | apply yag | apply yae | refine yab ?_ a3.out _))) : g ≠ b0)); replace HI0 := yaa (yay (by repeat (with_reducible first | exact HI0.out | apply yac | apply yad | apply yag | apply yae | refine yab ?_ a3.out _)) hb); have b5 := yaa a6.out.symm; clear hb hbox hg; have t1 := b9.out; have t2 := b2.out; have t3 := b5.out; have t4 := a6.out; obtain ⟨n6, n7, n8⟩ := cc3_ a7.out; obtain ⟨n9, o0⟩ := cf2_ a7.out; have o1 := blk_frozen a7.out 2) | ((with_reducible refine gc_ 43 rfl ?_); refine gl_ (some 20) rfl Tryz.func43 #[.pointer (some ⟨g, 0, none⟩), .int .i64 a1] ?_; (with_reducible refine (spec_l20Rd_odd.calls k g s0_0 c1 a1 true c6 w0 _ ?side1 ?side2 A9.out).mono ?_); (case side1 => repeat (with_reducible first | exact HI0.out | apply yac | apply yad | apply yag | apply yae | refine yab ?_ a3.out _ | refine yab ?_ a6.out _)); (case side2 => repeat (with_reducible first | exact HB.out | apply yap | apply yak | apply yao | refine yah ?_ (Aside0.out ‹_›) | refine yah ?_ (yau HI0.out))); rintro e w79 ⟨rfl, hi, hb, hk⟩; refine ⟨_, rfl, ?_⟩; replace a4 := yaa (yas hk (g' := b3) (o := .cells #[.slice none 0 0, .string (⟨#[]⟩ : ByteArray), .int .i64 0] 25 (0, 0)) (by repeat (with_reducible first | exact a4.out | refine oneB ?_ | refine blk_far ?_ b2.out _)) b1.out (by simp)); replace a5 := yaa (yar (yat (yaq (show IsS77 w0 _ g s0_0 c1 from by repeat (with_reducible first | exact HI0.out | apply yac | apply yad | apply yag | apply yae | refine yab ?_ a3.out _ | refine yab ?_ a6.out _)) (by (with_reducible repeat (first | apply Kd.R_alloc | apply Kd.R_drewN | apply Kd.R_drew)); exact (yar (yav (p := ⟨b0, 2, none⟩) (yav (p := ⟨b0, 1, none⟩) (yav (p := ⟨b0, 0, none⟩) (yba a5.out a7.out (by decide)) (fun _ hk => hk.2) (.slice e5 b4.length e6)) (fun _ hk => hk.2) (.string b8)) (fun _ hk => hk.2) (.int .i64 (rd y110 b6))) (fun _ h_ => h_.1))) (by decide)) hk (fun _ h => h.2)) (fun _ h => h.1)); replace a9 := yaa (yar (yat (yaq (show IsS77 w0 _ g s0_0 c1 from by repeat (with_reducible first | exact HI0.out | apply yac | apply yad | apply yag | apply yae | refine yab ?_ a3.out _ | refine yab ?_ a6.out _)) (by (with_reducible repeat (first | apply Kd.R_alloc | apply Kd.R_drewN | apply Kd.R_drew)); exact (yar (yav (p := ⟨b0, 2, none⟩) (yav (p := ⟨b0, 1, none⟩) (yav (p := ⟨b0, 0, none⟩) (yba a9.out a7.out (by decide)) (fun _ hk => hk.2) (.slice e5 b4.length e6)) (fun _ hk => hk.2) (.string b8)) (fun _ hk => hk.2) (.int .i64 (rd y110 b6))) (fun _ h_ => h_.1))) (by decide)) hk (fun _ h => h.2)) (fun _ h => h.1)); replace a7 := yaa (yas hk (g' := b0) (o := .cells #[.slice e5 b4.length e6, .string b8, .int .i64 (rd y110 b6)] 25 (0, 0)) (by (repeat refine oneB ?_); refine blk_put (cs := #[.slice e5 b4.length e6, .string b8, .int .i64 0]) ?_ 2 _ rfl; refine blk_put (cs := #[.slice e5 b4.length e6, .string (⟨#[]⟩ : ByteArray), .int .i64 0]) ?_ 1 _ rfl; refine blk_put (cs := #[.slice none 0 0, .string (⟨#[]⟩ : ByteArray), .int .i64 0]) ?_ 0 _ rfl; exact upB a7.out) b5.out (by simp)); replace HK := yaa (yam (by repeat (with_reducible first | exact HK.out | apply yaf | apply yai | apply yal | apply yaj | refine yan ?_ a8.out _ | refine yan ?_ b7.out _)) hk (.inl rfl)); replace HB := yaa (hb); replace HI0 := yaa (hi); (try clear hb hk hi)) | ((with_reducible refine gc_ 27 rfl ?_); refine gl_ (some 22) rfl Tryz.func27 #[.pointer (some ⟨g, 0, none⟩), .int .i64 3] ?_; (with_reducible refine (spec_l20Rd_pick.calls k g s0_0 c6 3 f4 c3 w0 _ ?side1 ?side2 A11.out).mono ?_); (case side1 => repeat (with_reducible first | exact HI0.out | apply yac | apply yad | apply yag | apply yae | refine yab ?_ a3.out _ | refine yab ?_ a6.out _)); (case side2 => repeat (with_reducible first | exact HB.out | apply yap | apply yak | apply yao | refine yah ?_ (Aside0.out ‹_›) | refine yah ?_ (yau HI0.out))); rintro e w80 ⟨rfl, hi, hb, hk⟩; refine ⟨_, rfl, ?_⟩; replace a4 := yaa (yas hk (upB a4.out) b1.out (by simp)); replace a5 := yaa (yar (yat (yaq (show IsS77 w0 _ g s0_0 c6 from by repeat (with_reducible first | exact HI0.out | apply yac | apply yad | apply yag | apply yae | refine yab ?_ a3.out _ | refine yab ?_ a6.out _)) (upR a5.out) (by decide)) hk (fun _ h => h.2)) (fun _ h => h.1)); replace a9 := yaa (yar (yat (yaq (show IsS77 w0 _ g s0_0 c6 from by repeat (with_reducible first | exact HI0.out | apply yac | apply yad | apply yag | apply yae | refine yab ?_ a3.out _ | refine yab ?_ a6.out _)) (upR a9.out) (by decide)) hk (fun _ h => h.2)) (fun _ h => h.1)); replace a7 := yaa (yas hk (upB a7.out) b5.out (by simp)); replace HK := yaa (yam (by repeat (with_reducible first | exact HK.out | apply yaf | apply yai | apply yal | apply yaj | refine yan ?_ a8.out _ | refine yan ?_ b7.out _)) hk (.inl rfl)); replace HB := yaa (hb); replace HI0 := yaa (hi); (try clear hb hk hi)))
 replace a5 := yaa (Kd.R_drew a5.out); replace a9 := yaa (Kd.R_drew a9.out); replace a4 := yaa (blk_drew a4.out); replace a7 := yaa (blk_drew a7.out); replace HI0 := yaa (yag HI0.out); replace HK := yaa (yal HK.out); replace HB := yaa (yao HB.out)
 refine start_ (n := 8) (S := fun w' => w'.cell? ⟨b0, 0, none⟩ = some (.slice e5 b4.length e6) ∧ w'.cell? ⟨b0, 1, none⟩ = some (.string b8) ∧ w'.cell? ⟨b0, 2, none⟩ = some (.int .i64 (rd y110 b6))) (ds := [7]) q19_0 (by kernel_rfl) rfl rfl ⟨(blk_cell a7.out 0).trans rfl, (blk_cell a7.out 1).trans rfl, (blk_cell a7.out 2).trans rfl⟩ (fun hHeld => ?_); refine with_tabW spec_l20Ask.tab4 spec_l20Ask.bits4 (fun HT_ HW_ => ?_)
 generalize w80.drew = w81 at a5 a9 a4 a7 HI0 HK HB hHeld ⊢
 refine pz_ 0 23 q19_1 HT_ (by kernel_rfl) ?_
 refine pz_ 2 25 q19_2 HT_ (by kernel_rfl) ?_
 refine tz_ 1 24 q19_3 HT_ HW_ (by kernel_rfl) hHeld ?_
 refine one_ (i := 3) (N := some 26) q19_4 rfl rfl (one_of HT_.out (by kernel_rfl)) (by decide) (fun K hK => ?_)
 refine goes_ Tryz.func44 (by kernel_rfl) rfl #[.pointer (some ⟨g, 0, none⟩), .int .i64 1] (by rfl) rfl rfl (by (try simp only [List.map_toArray, List.map_cons, List.map_nil]); first | done | rfl | (simp only [List.length_drop, List.length_take]; rfl)) ?_
 with_reducible refine (spec_l20Op.calls k g s0_0 c3 1 g0 g1 g2 g3 g4 h8 w0 _ ?side1 ?side2 A64.out).mono ?_
 (case side1 => repeat (with_reducible first | exact HI0.out | apply yac | apply yad | apply yag | apply yae | refine yab ?_ a3.out _ | refine yab ?_ a6.out _))
 (case side2 => repeat (with_reducible first | exact HB.out | apply yap | apply yak | apply yao | refine yah ?_ (Aside0.out ‹_›) | refine yah ?_ (yau HI0.out)))
 rintro e w82 ⟨rfl, hi, hb, hk⟩; refine ⟨_, rfl, ?_⟩; have n0_ := yaa (yas hk (upB a4.out) b1.out (by simp))
 have n1_ := yaa (yar (yat (yaq (show IsS77 w0 _ g s0_0 c3 from by repeat (with_reducible first | exact HI0.out | apply yac | apply yad | apply yag | apply yae | refine yab ?_ a3.out _ | refine yab ?_ a6.out _)) (upR a5.out) (by decide)) hk (fun _ h => h.2)) (fun _ h => h.1))
 have n2_ := yaa (yar (yat (yaq (show IsS77 w0 _ g s0_0 c3 from by repeat (with_reducible first | exact HI0.out | apply yac | apply yad | apply yag | apply yae | refine yab ?_ a3.out _ | refine yab ?_ a6.out _)) (upR a9.out) (by decide)) hk (fun _ h => h.2)) (fun _ h => h.1))
 have n3_ := yaa (yas hk (upB a7.out) b5.out (by simp))
 have n4_ := yaa (yam (by repeat (with_reducible first | exact HK.out | apply yaf | apply yai | apply yal | apply yaj | refine yan ?_ a8.out _ | refine yan ?_ b7.out _)) hk (.inl rfl))
 have n5_ := yaa (hb); have n6_ := yaa (hi); clear a4; clear a5; clear a9; clear a7; clear HK; clear HB; clear HI0; have a4 := n0_; have a5 := n1_; have a9 := n2_; have a7 := n3_; have HK := n4_; have HB := n5_; have HI0 := n6_; clear n0_ n1_ n2_ n3_ n4_ n5_ n6_; (try clear hb); (try clear hb2); (try clear hk); (try clear hi)
 refine hK.out _ _ ⟨(blk_cell a7.out 0).trans rfl, (blk_cell a7.out 1).trans rfl, (blk_cell a7.out 2).trans rfl⟩ (fun hHeld => ?_)
 clear hK K
 refine norm_ (a' := ?_) ?_ ?_
 rotate_left
 ·
  show Act.put _ (some 26) _ = _
  simp only [Act.put, List.setIfInBounds_toArray, List.set_cons_zero, List.set_cons_succ, i64_w, i32_w]
  rfl
 refine one_ (i := 4) (N := some 27) q19_5 rfl rfl (one_of HT_.out (by kernel_rfl)) (by decide) (fun K hK => ?_)
 refine value_ (w1 := ?_) (v := ?_) (by rfl) rfl ?_ ?_
 rotate_left 2
 ·
  go_simp
  constructor
  ·
   rfl
  ·
   rfl
 refine hK.out _ _ ⟨(blk_cell (blk_alloc a7.out _) 0).trans rfl, (blk_cell (blk_alloc a7.out _) 1).trans rfl, (blk_cell (blk_alloc a7.out _) 2).trans rfl⟩ (fun hHeld => ?_)
 clear hK K
 refine norm_ (a' := ?_) ?_ ?_
 rotate_left
 ·
  show Act.put _ (some 27) _ = _
  simp only [Act.put, List.setIfInBounds_toArray, List.set_cons_zero, List.set_cons_succ, i64_w, i32_w]
  rfl
 refine one_ (i := 5) (N := some 28) q19_6 rfl rfl (one_of HT_.out (by kernel_rfl)) (by decide) (fun K hK => ?_)
 refine Kd.R_append_step k65 w.heap.size (by rfl) (.tmp 24) (.tmp 27) 23 65 (.agg #[(.int .i64 0), (.int .i64 0), (.int .i64 0), (.int .i64 0), (.int .i64 0)]) 40 rfl Tryz.underlying23 info65 rfl (by decide) (by omega) (.slice e5 b4.length e6) b4 (⟨g0, g1, g2, g3, g4⟩ : S65) [.int .i64 g0, .int .i64 g1, .int .i64 g2, .int .i64 g3, .int .i64 g4] (fun _ => True) (fun _ => False) rfl rfl ?aP (fun _ hk => hk.elim) ?aF ?aO (Below.refl _ _) ?aS ?aL ?_
 (case aP => exact k65_mkM _ _ _ (⟨g0, g1, g2, g3, g4⟩ : S65))
 (case aF => exact (fun _ _ => trivial))
 (case aO => exact (upR a5.out))
 (case aS => exact (yax (w := w) (g := g) (row := none) (by repeat (with_reducible first | exact HK.out | apply yaf | apply yai | apply yal | apply yaj | refine yan ?_ a8.out _ | refine yan ?_ b7.out _))))
 (case aL => have := LMc65.out; omega)
 intro v2 w83 ho hb hg hat
 rw [← Ny139.out] at ho
 have n0_ := yaa (IsS77.grown (by repeat (with_reducible first | exact HI0.out | apply yac | apply yad | apply yag | apply yae | refine yab ?_ a3.out _ | refine yab ?_ a6.out _)) hg (IsS77.own_ne HI0.out a5.out (by decide)))
 have n1_ := yaa (blk_grown (upB a4.out) hg (Kd.R_ne a5.out a4.out (by decide))); have n2_ := yaa (Kd.R_over' (upR a9.out) (Kd.R_typed (upR a5.out)) (by decide) hg); have n3_ := yaa (blk_grown (upB a7.out) hg (Kd.R_ne a5.out a7.out (by decide)))
 have n4_ := yaa (below_weaken (by repeat (with_reducible first | exact HB.out | apply yap | apply yak | apply yao | refine yah ?_ (Aside0.out ‹_›) | refine yah ?_ (yau HI0.out))) HL.out hb)
 have n5_ := yaa (yam (by repeat (with_reducible first | exact HK.out | apply yaf | apply yai | apply yal | apply yaj | refine yan ?_ a8.out _ | refine yan ?_ b7.out _)) (KeepBut.of_grown hg g) (Kd.R_base2 a5.out))
 have n6_ := yaa (ho); clear HI0; clear a4; clear a9; clear a7; clear HB; clear HK; clear a5; have HI0 := n0_; have a4 := n1_; have a9 := n2_; have a7 := n3_; have HB := n4_; have HK := n5_; have h1 := n6_; clear n0_ n1_ n2_ n3_ n4_ n5_ n6_; clear ho hb hg hat; obtain ⟨g6, g7, h9⟩ := Kd.R_slice h1.out
 (first | subst h9 | (injection h9 with f1_ f2_ f3_; have f4_ := f1_.symm; have f5_ := f3_.symm; clear f1_ f2_ f3_; subst f4_; subst f5_))
 refine hK.out _ _ ⟨(blk_cell a7.out 0).trans rfl, (blk_cell a7.out 1).trans rfl, (blk_cell a7.out 2).trans rfl⟩ (fun hHeld => ?_)
 clear hK K
 refine norm_ (a' := ?_) ?_ ?_
 rotate_left
 ·
  show Act.put _ (some 28) _ = _
  simp only [Act.put, List.setIfInBounds_toArray, List.set_cons_zero, List.set_cons_succ, i64_w, i32_w]
  rfl
 refine pz_ 6 29 q19_7 HT_ (by kernel_rfl) ?_
 refine last_ (i := 7) (N := none) q19_8 rfl rfl (one_of HT_.out (by kernel_rfl)) (by decide) (fun K hK => ?_)
 have v3 : w83.cell? ⟨b0, 0, none⟩ = some (.slice e5 b4.length e6) := (blk_cell a7.out 0).trans rfl; have t5 := blk_frozen a7.out 0; have o2 := b2.out; have o3 := b9.out
 refine skip_ (w1 := ?_) (by rfl) rfl ?_ ?_
 rotate_left
 ·
  go_simp
  rfl
 refine hK.out _ _ ?_
 clear hK K
 refine done_ (done_of HT_.out (by kernel_rfl)) ?_
 obtain ⟨o4, o5, o6⟩ := cc3_ a7.out; obtain ⟨o7, o8, o9⟩ := cf3_ a7.out; have t6 := b1.out; have t7 := a3.out; obtain ⟨p0, p1, p2⟩ := cc3_ a4.out; obtain ⟨p3, p4, p5⟩ := cf3_ a4.out
 try go_wp2
 refine bodyPost_ret (results_cell_row rfl _ _ b3 25 #[.slice g6 y139.length g7, .string b8, .int .i64 (rd y110 b6)] (0, 0) _ rfl (by (repeat refine oneB ?_); refine blk_put (cs := #[.slice g6 y139.length g7, .string b8, .int .i64 0]) ?_ 2 _ rfl; refine blk_put (cs := #[.slice g6 y139.length g7, .string (⟨#[]⟩ : ByteArray), .int .i64 0]) ?_ 1 _ rfl; refine blk_put (cs := #[.slice none 0 0, .string (⟨#[]⟩ : ByteArray), .int .i64 0]) ?_ 0 _ rfl; (repeat refine oneB ?_); refine blk_far ?_ b2.out _; exact upB a4.out) Tryz.underlying25 rfl (by kernel_rfl)) rfl ?_
 exact ⟨_, by first | rfl | (simp [*, errW_none, errW_some] <;> rfl), by (with_reducible repeat (first | apply Kd.R_alloc | apply Kd.R_drewN | apply Kd.R_drew)); exact yar (yav (p := ⟨b3, 2, none⟩) (yav (p := ⟨b3, 1, none⟩) (yav (p := ⟨b3, 0, none⟩) (yav (p := ⟨b0, 0, none⟩) (yba (yba h1.out a7.out (by decide)) a4.out (by decide)) (fun _ hk => hk.1.2) (.slice g6 y139.length g7)) (fun _ hk => hk.2) (.slice g6 y139.length g7)) (fun _ hk => hk.2) (.string b8)) (fun _ hk => hk.2) (.int .i64 (rd y110 b6))) (fun _ hk => trivial), by repeat (with_reducible first | exact HI0.out | apply yac | apply yad | apply yag | apply yae | refine yab ?_ a3.out _ | refine yab ?_ a6.out _), by repeat (with_reducible first | exact HB.out | apply yap | apply yak | apply yao | refine yah ?_ (Aside0.out ‹_›) | refine yah ?_ (yau HI0.out)), by repeat (with_reducible first | exact HK.out | apply yaf | apply yai | apply yal | apply yaj | refine yan ?_ a8.out _ | refine yan ?_ b7.out _)⟩
end
section
def spec_l1In.f (a0 : Int) (a1 : Int) (a2 : Int) : Option (Bool) := if a0 ≥ a1 then (some (decide (a0 ≤ a2))) else (some false)
set_option maxHeartbeats 8000000 in
set_option maxRecDepth 100000 in
theorem spec_l1In.calls (a0 : Int) (a1 : Int) (a2 : Int) (r : Bool) (w : World) (h : spec_l1In.f a0 a1 a2 = some r) :
    Calls Tryz.prog 50 #[.int .i64 a0, .int .i64 a1, .int .i64 a2] w fun e w' => e = .returned (.bool r) ∧ Drawn0 w w' := by
  have H : (if a0 ≥ a1 then (some (decide (a0 ≤ a2))) else (some false)) = some r := h; clear h
  by_cases c4 : a0 ≥ a1
  · rw [if_pos c4] at H
    have c4b0 : decide (a1 ≤ a0) = true := decide_eq_true c4; clear c4; obtain rfl := Option.some.inj H
    go_enter Tryz.func50, Tryz.ntmps50
    go_wp2
    go_ret
    exact ⟨by first | rfl | (simp; done) | (simp [*]; done), by repeat (first | exact Drawn0.refl _ | apply Drawn0.step)⟩
  · rw [if_neg c4] at H
    have c4b0 : decide (a1 ≤ a0) = false := decide_eq_false c4; clear c4; obtain rfl := Option.some.inj H
    go_enter Tryz.func50, Tryz.ntmps50
    go_wp2
    go_ret
    exact ⟨by first | rfl | (simp; done) | (simp [*]; done), by repeat (first | exact Drawn0.refl _ | apply Drawn0.step)⟩
end
section
open Go.Proofs.YtmplnpjdbfedbaaGreatDoorW.PrintWords.Aside0 renaming mk → yaa
open Go.Proofs.YtmplnpjdbfedbaaGreatDoorW.PrintWords renaming pw_below_drewN → yab, below_alloc → yac, below_drew1 → yad, below_size → yae, below_step → yaf, blk_frozen → yag, below_set → yah
def spec_OpOk.f (a0_0 : Int) (a0_1 : Int) (a0_2 : Int) (a0_3 : Int) (a0_4 : Int) : Option (Bool) := if a0_0 = 1 then ((spec_l1In.f a0_1 0 5).bind fun t102 => (if t102 = true then ((spec_l1In.f a0_2 0 5).bind fun t103 => (if t103 = true then ((spec_l1In.f a0_3 1 6).bind fun t104 => (if t104 = true then ((spec_l1In.f a0_4 1 6).bind fun t105 => (some t105)) else (some false))) else (some false))) else (some false))) else (if a0_0 = 7 then ((spec_l1In.f a0_1 1 6).bind fun t106 => (if t106 = true then ((spec_l1In.f a0_2 1 6).bind fun t107 => (if t107 = true then (if a0_3 = 0 then (some (a0_4 == 0)) else (some false)) else (some false))) else (some false))) else (if a0_0 = 8 then ((spec_l1In.f a0_1 0 255).bind fun t108 => (if t108 = true then ((spec_l1In.f a0_2 0 255).bind fun t109 => (if t109 = true then ((spec_l1In.f a0_3 0 255).bind fun t110 => (if t110 = true then (some (a0_4 == 0)) else (some false))) else (some false))) else (some false))) else ((spec_l1In.f a0_0 2 6).bind fun t111 => (if t111 = true then (if a0_1 = 0 then (if a0_2 = 0 then (if a0_3 = 0 then (some (a0_4 == 0)) else (some false)) else (some false)) else (some false)) else (some false)))))
set_option maxHeartbeats 8000000 in
set_option maxRecDepth 100000 in
theorem spec_OpOk.calls (a0_0 : Int) (a0_1 : Int) (a0_2 : Int) (a0_3 : Int) (a0_4 : Int) (r : Bool) (w : World) (h : spec_OpOk.f a0_0 a0_1 a0_2 a0_3 a0_4 = some r) :
  Calls Tryz.prog 81 #[.agg #[.int .i64 a0_0, .int .i64 a0_1, .int .i64 a0_2, .int .i64 a0_3, .int .i64 a0_4]] w fun e w' => e = .returned (.bool r) ∧ Below w.heap.size w w' := by
 have hu65 := Tryz.underlying65; have HB := yaa (Below.refl w.heap.size w); have H : (if a0_0 = 1 then ((spec_l1In.f a0_1 0 5).bind fun a6 => (if a6 = true then ((spec_l1In.f a0_2 0 5).bind fun a7 => (if a7 = true then ((spec_l1In.f a0_3 1 6).bind fun a8 => (if a8 = true then ((spec_l1In.f a0_4 1 6).bind fun a9 => (some a9)) else (some false))) else (some false))) else (some false))) else (if a0_0 = 7 then ((spec_l1In.f a0_1 1 6).bind fun b0 => (if b0 = true then ((spec_l1In.f a0_2 1 6).bind fun b1 => (if b1 = true then (if a0_3 = 0 then (some (a0_4 == 0)) else (some false)) else (some false))) else (some false))) else (if a0_0 = 8 then ((spec_l1In.f a0_1 0 255).bind fun b2 => (if b2 = true then ((spec_l1In.f a0_2 0 255).bind fun b3 => (if b3 = true then ((spec_l1In.f a0_3 0 255).bind fun b4 => (if b4 = true then (some (a0_4 == 0)) else (some false))) else (some false))) else (some false))) else ((spec_l1In.f a0_0 2 6).bind fun b5 => (if b5 = true then (if a0_1 = 0 then (if a0_2 = 0 then (if a0_3 = 0 then (some (a0_4 == 0)) else (some false)) else (some false)) else (some false)) else (some false)))))) = some r := h; clear h
 by_cases c2 : a0_0 = 1
 ·
  rw [if_pos c2] at H
  have u2 := beq_iff_eq.mpr c2; have u3 := bne_eq_false_iff_eq.mpr c2; clear c2; obtain ⟨a6, A3, H⟩ := bindA H; (try dsimp only at H)
  by_cases c4 : a6 = true
  rotate_left
  ·
   replace c4 := Bool.eq_false_iff.mpr c4
   subst c4
   rw [if_neg (show ¬ (false = true) by decide)] at H
   obtain rfl := Option.some.inj H
   go_enter Tryz.func81, Tryz.ntmps81
   go_wp2_with (first | ((with_reducible refine gd_ 1 rfl ?_); refine bx_ 1 rfl #[.int .i64 a0_0, .int .i64 a0_1, .int .i64 a0_2, .int .i64 a0_3, .int .i64 a0_4] 65 ?_; intro a1 hg w16 hbox hb; have a0 := yaa (hbox); have a2 := yaa ((by rw [hg]; exact (yae (upH HB.out)) : w.heap.size ≤ a1)); replace HB := yaa (yaf (upH HB.out) hb); have a3 := a2; clear hb hbox hg; obtain ⟨g2, g3, g4, g5, g6⟩ := cc5_ a0.out; obtain ⟨g7, g8, g9, h0⟩ := cf4_ a0.out; have h1 := yag a0.out 4) | ((with_reducible refine gc_ 50 rfl ?_); refine gl_ (some 9) rfl Tryz.func50 #[.int .i64 a0_1, .int .i64 0, .int .i64 5] ?_; (with_reducible refine (spec_l1In.calls a0_1 0 5 false _ A3.out).mono ?_); rintro e w' ⟨rfl, ⟨nd, rfl⟩⟩; refine ⟨_, rfl, ?_⟩))
   go_ret
   exact ⟨by first | rfl | (simp [*, errW_none, errW_some] <;> rfl), by repeat (with_reducible first | exact HB.out | apply yac | apply yab | apply yad | refine yah ?_ (Aside0.out ‹_›))⟩
  subst c4
  rw [if_pos rfl] at H
  obtain ⟨a7, A5, H⟩ := bindA H; (try dsimp only at H)
  by_cases c6 : a7 = true
  ·
   subst c6
   rw [if_pos rfl] at H
   obtain ⟨a8, A7, H⟩ := bindA H; (try dsimp only at H)
   by_cases c8 : a8 = true
   ·
    subst c8
    rw [if_pos rfl] at H
    obtain ⟨a9, A9, H⟩ := bindA H; (try dsimp only at H); obtain rfl := Option.some.inj H
    go_enter Tryz.func81, Tryz.ntmps81
    go_wp2_with (first | ((with_reducible refine gd_ 1 rfl ?_); refine bx_ 1 rfl #[.int .i64 a0_0, .int .i64 a0_1, .int .i64 a0_2, .int .i64 a0_3, .int .i64 a0_4] 65 ?_; intro a1 hg w10 hbox hb; have a0 := yaa (hbox); have a2 := yaa ((by rw [hg]; exact (yae (upH HB.out)) : w.heap.size ≤ a1)); replace HB := yaa (yaf (upH HB.out) hb); have a3 := a2; clear hb hbox hg; obtain ⟨d2, d3, d4, d5, d6⟩ := cc5_ a0.out; obtain ⟨d7, d8, d9, e0⟩ := cf4_ a0.out; have e1 := yag a0.out 4) | ((with_reducible refine gc_ 50 rfl ?_); refine gl_ (some 9) rfl Tryz.func50 #[.int .i64 a0_1, .int .i64 0, .int .i64 5] ?_; (with_reducible refine (spec_l1In.calls a0_1 0 5 true _ A3.out).mono ?_); rintro e w' ⟨rfl, ⟨nd, rfl⟩⟩; refine ⟨_, rfl, ?_⟩) | (go_at_call 50; (with_reducible refine (spec_l1In.calls a0_2 0 5 true _ A5.out).mono ?_); rintro e w' ⟨rfl, ⟨nd, rfl⟩⟩) | (go_at_call 50; (with_reducible refine (spec_l1In.calls a0_3 1 6 true _ A7.out).mono ?_); rintro e w' ⟨rfl, ⟨nd, rfl⟩⟩) | (go_at_call 50; (with_reducible refine (spec_l1In.calls a0_4 1 6 a9 _ A9.out).mono ?_); rintro e w' ⟨rfl, ⟨nd, rfl⟩⟩))
    go_ret
    exact ⟨by first | rfl | (simp [*, errW_none, errW_some] <;> rfl), by repeat (with_reducible first | exact HB.out | apply yac | apply yab | apply yad | refine yah ?_ (Aside0.out ‹_›))⟩
   replace c8 := Bool.eq_false_iff.mpr c8
   subst c8
   rw [if_neg (show ¬ (false = true) by decide)] at H
   obtain rfl := Option.some.inj H
   go_enter Tryz.func81, Tryz.ntmps81
   go_wp2_with (first | ((with_reducible refine gd_ 1 rfl ?_); refine bx_ 1 rfl #[.int .i64 a0_0, .int .i64 a0_1, .int .i64 a0_2, .int .i64 a0_3, .int .i64 a0_4] 65 ?_; intro a1 hg w12 hbox hb; have a0 := yaa (hbox); have a2 := yaa ((by rw [hg]; exact (yae (upH HB.out)) : w.heap.size ≤ a1)); replace HB := yaa (yaf (upH HB.out) hb); have a3 := a2; clear hb hbox hg; obtain ⟨e2, e3, e4, e5, e6⟩ := cc5_ a0.out; obtain ⟨e7, e8, e9, f0⟩ := cf4_ a0.out; have f1 := yag a0.out 4) | ((with_reducible refine gc_ 50 rfl ?_); refine gl_ (some 9) rfl Tryz.func50 #[.int .i64 a0_1, .int .i64 0, .int .i64 5] ?_; (with_reducible refine (spec_l1In.calls a0_1 0 5 true _ A3.out).mono ?_); rintro e w' ⟨rfl, ⟨nd, rfl⟩⟩; refine ⟨_, rfl, ?_⟩) | (go_at_call 50; (with_reducible refine (spec_l1In.calls a0_2 0 5 true _ A5.out).mono ?_); rintro e w' ⟨rfl, ⟨nd, rfl⟩⟩) | (go_at_call 50; (with_reducible refine (spec_l1In.calls a0_3 1 6 false _ A7.out).mono ?_); rintro e w' ⟨rfl, ⟨nd, rfl⟩⟩))
   go_ret
   exact ⟨by first | rfl | (simp [*, errW_none, errW_some] <;> rfl), by repeat (with_reducible first | exact HB.out | apply yac | apply yab | apply yad | refine yah ?_ (Aside0.out ‹_›))⟩
  replace c6 := Bool.eq_false_iff.mpr c6
  subst c6
  rw [if_neg (show ¬ (false = true) by decide)] at H
  obtain rfl := Option.some.inj H
  go_enter Tryz.func81, Tryz.ntmps81
  go_wp2_with (first | ((with_reducible refine gd_ 1 rfl ?_); refine bx_ 1 rfl #[.int .i64 a0_0, .int .i64 a0_1, .int .i64 a0_2, .int .i64 a0_3, .int .i64 a0_4] 65 ?_; intro a1 hg w14 hbox hb; have a0 := yaa (hbox); have a2 := yaa ((by rw [hg]; exact (yae (upH HB.out)) : w.heap.size ≤ a1)); replace HB := yaa (yaf (upH HB.out) hb); have a3 := a2; clear hb hbox hg; obtain ⟨f2, f3, f4, f5, f6⟩ := cc5_ a0.out; obtain ⟨f7, f8, f9, g0⟩ := cf4_ a0.out; have g1 := yag a0.out 4) | ((with_reducible refine gc_ 50 rfl ?_); refine gl_ (some 9) rfl Tryz.func50 #[.int .i64 a0_1, .int .i64 0, .int .i64 5] ?_; (with_reducible refine (spec_l1In.calls a0_1 0 5 true _ A3.out).mono ?_); rintro e w' ⟨rfl, ⟨nd, rfl⟩⟩; refine ⟨_, rfl, ?_⟩) | (go_at_call 50; (with_reducible refine (spec_l1In.calls a0_2 0 5 false _ A5.out).mono ?_); rintro e w' ⟨rfl, ⟨nd, rfl⟩⟩))
  go_ret
  exact ⟨by first | rfl | (simp [*, errW_none, errW_some] <;> rfl), by repeat (with_reducible first | exact HB.out | apply yac | apply yab | apply yad | refine yah ?_ (Aside0.out ‹_›))⟩
 rw [if_neg c2] at H
 have u2 := beq_eq_false_iff_ne.mpr c2; have u3 := bne_iff_ne.mpr c2
 by_cases c18 : a0_0 = 7
 ·
  rw [if_pos c18] at H
  have b6 := beq_iff_eq.mpr c18; have b7 := bne_eq_false_iff_eq.mpr c18; clear c18; obtain ⟨b0, A19, H⟩ := bindA H; (try dsimp only at H)
  by_cases c20 : b0 = true
  rotate_left
  ·
   replace c20 := Bool.eq_false_iff.mpr c20
   subst c20
   rw [if_neg (show ¬ (false = true) by decide)] at H
   obtain rfl := Option.some.inj H
   go_enter Tryz.func81, Tryz.ntmps81
   go_wp2_with (first | ((with_reducible refine gd_ 1 rfl ?_); refine bx_ 1 rfl #[.int .i64 a0_0, .int .i64 a0_1, .int .i64 a0_2, .int .i64 a0_3, .int .i64 a0_4] 65 ?_; intro a1 hg w30 hbox hb; have a0 := yaa (hbox); have a2 := yaa ((by rw [hg]; exact (yae (upH HB.out)) : w.heap.size ≤ a1)); replace HB := yaa (yaf (upH HB.out) hb); have a3 := a2; clear hb hbox hg; obtain ⟨k2, k3, k4, k5, k6⟩ := cc5_ a0.out; obtain ⟨k7, k8, k9, l0⟩ := cf4_ a0.out; have l1 := yag a0.out 4) | ((with_reducible refine gc_ 50 rfl ?_); refine gl_ (some 29) rfl Tryz.func50 #[.int .i64 a0_1, .int .i64 1, .int .i64 6] ?_; (with_reducible refine (spec_l1In.calls a0_1 1 6 false _ A19.out).mono ?_); rintro e w' ⟨rfl, ⟨nd, rfl⟩⟩; refine ⟨_, rfl, ?_⟩))
   go_ret
   exact ⟨by first | rfl | (simp [*, errW_none, errW_some] <;> rfl), by repeat (with_reducible first | exact HB.out | apply yac | apply yab | apply yad | refine yah ?_ (Aside0.out ‹_›))⟩
  subst c20
  rw [if_pos rfl] at H
  obtain ⟨b1, A21, H⟩ := bindA H; (try dsimp only at H)
  by_cases c22 : b1 = true
  ·
   subst c22
   rw [if_pos rfl] at H
   by_cases c23 : a0_3 = 0
   ·
    rw [if_pos c23] at H
    have b8 := beq_iff_eq.mpr c23; have b9 := bne_eq_false_iff_eq.mpr c23; clear c23; obtain rfl := Option.some.inj H
    go_enter Tryz.func81, Tryz.ntmps81
    go_wp2_with (first | ((with_reducible refine gd_ 1 rfl ?_); refine bx_ 1 rfl #[.int .i64 a0_0, .int .i64 a0_1, .int .i64 a0_2, .int .i64 a0_3, .int .i64 a0_4] 65 ?_; intro a1 hg w24 hbox hb; have a0 := yaa (hbox); have a2 := yaa ((by rw [hg]; exact (yae (upH HB.out)) : w.heap.size ≤ a1)); replace HB := yaa (yaf (upH HB.out) hb); have a3 := a2; clear hb hbox hg; obtain ⟨h2, h3, h4, h5, h6⟩ := cc5_ a0.out; obtain ⟨h7, h8, h9, i0⟩ := cf4_ a0.out; have i1 := yag a0.out 4) | ((with_reducible refine gc_ 50 rfl ?_); refine gl_ (some 29) rfl Tryz.func50 #[.int .i64 a0_1, .int .i64 1, .int .i64 6] ?_; (with_reducible refine (spec_l1In.calls a0_1 1 6 true _ A19.out).mono ?_); rintro e w' ⟨rfl, ⟨nd, rfl⟩⟩; refine ⟨_, rfl, ?_⟩) | (go_at_call 50; (with_reducible refine (spec_l1In.calls a0_2 1 6 true _ A21.out).mono ?_); rintro e w' ⟨rfl, ⟨nd, rfl⟩⟩))
    go_ret
    exact ⟨by first | rfl | (simp [*, errW_none, errW_some] <;> rfl), by repeat (with_reducible first | exact HB.out | apply yac | apply yab | apply yad | refine yah ?_ (Aside0.out ‹_›))⟩
   rw [if_neg c23] at H
   have b8 := beq_eq_false_iff_ne.mpr c23; have b9 := bne_iff_ne.mpr c23; obtain rfl := Option.some.inj H
   go_enter Tryz.func81, Tryz.ntmps81
   go_wp2_with (first | ((with_reducible refine gd_ 1 rfl ?_); refine bx_ 1 rfl #[.int .i64 a0_0, .int .i64 a0_1, .int .i64 a0_2, .int .i64 a0_3, .int .i64 a0_4] 65 ?_; intro a1 hg w26 hbox hb; have a0 := yaa (hbox); have a2 := yaa ((by rw [hg]; exact (yae (upH HB.out)) : w.heap.size ≤ a1)); replace HB := yaa (yaf (upH HB.out) hb); have a3 := a2; clear hb hbox hg; obtain ⟨i2, i3, i4, i5, i6⟩ := cc5_ a0.out; obtain ⟨i7, i8, i9, j0⟩ := cf4_ a0.out; have j1 := yag a0.out 4) | ((with_reducible refine gc_ 50 rfl ?_); refine gl_ (some 29) rfl Tryz.func50 #[.int .i64 a0_1, .int .i64 1, .int .i64 6] ?_; (with_reducible refine (spec_l1In.calls a0_1 1 6 true _ A19.out).mono ?_); rintro e w' ⟨rfl, ⟨nd, rfl⟩⟩; refine ⟨_, rfl, ?_⟩) | (go_at_call 50; (with_reducible refine (spec_l1In.calls a0_2 1 6 true _ A21.out).mono ?_); rintro e w' ⟨rfl, ⟨nd, rfl⟩⟩))
   go_ret
   exact ⟨by first | rfl | (simp [*, errW_none, errW_some] <;> rfl), by repeat (with_reducible first | exact HB.out | apply yac | apply yab | apply yad | refine yah ?_ (Aside0.out ‹_›))⟩
  replace c22 := Bool.eq_false_iff.mpr c22
  subst c22
  rw [if_neg (show ¬ (false = true) by decide)] at H
  obtain rfl := Option.some.inj H
  go_enter Tryz.func81, Tryz.ntmps81
  go_wp2_with (first | ((with_reducible refine gd_ 1 rfl ?_); refine bx_ 1 rfl #[.int .i64 a0_0, .int .i64 a0_1, .int .i64 a0_2, .int .i64 a0_3, .int .i64 a0_4] 65 ?_; intro a1 hg w28 hbox hb; have a0 := yaa (hbox); have a2 := yaa ((by rw [hg]; exact (yae (upH HB.out)) : w.heap.size ≤ a1)); replace HB := yaa (yaf (upH HB.out) hb); have a3 := a2; clear hb hbox hg; obtain ⟨j2, j3, j4, j5, j6⟩ := cc5_ a0.out; obtain ⟨j7, j8, j9, k0⟩ := cf4_ a0.out; have k1 := yag a0.out 4) | ((with_reducible refine gc_ 50 rfl ?_); refine gl_ (some 29) rfl Tryz.func50 #[.int .i64 a0_1, .int .i64 1, .int .i64 6] ?_; (with_reducible refine (spec_l1In.calls a0_1 1 6 true _ A19.out).mono ?_); rintro e w' ⟨rfl, ⟨nd, rfl⟩⟩; refine ⟨_, rfl, ?_⟩) | (go_at_call 50; (with_reducible refine (spec_l1In.calls a0_2 1 6 false _ A21.out).mono ?_); rintro e w' ⟨rfl, ⟨nd, rfl⟩⟩))
  go_ret
  exact ⟨by first | rfl | (simp [*, errW_none, errW_some] <;> rfl), by repeat (with_reducible first | exact HB.out | apply yac | apply yab | apply yad | refine yah ?_ (Aside0.out ‹_›))⟩
 rw [if_neg c18] at H
 have b6 := beq_eq_false_iff_ne.mpr c18; have b7 := bne_iff_ne.mpr c18
 by_cases c32 : a0_0 = 8
 ·
  rw [if_pos c32] at H
  have c0 := beq_iff_eq.mpr c32; have c1 := bne_eq_false_iff_eq.mpr c32; clear c32; obtain ⟨b2, A33, H⟩ := bindA H; (try dsimp only at H)
  by_cases c34 : b2 = true
  rotate_left
  ·
   replace c34 := Bool.eq_false_iff.mpr c34
   subst c34
   rw [if_neg (show ¬ (false = true) by decide)] at H
   obtain rfl := Option.some.inj H
   go_enter Tryz.func81, Tryz.ntmps81
   go_wp2_with (first | ((with_reducible refine gd_ 1 rfl ?_); refine bx_ 1 rfl #[.int .i64 a0_0, .int .i64 a0_1, .int .i64 a0_2, .int .i64 a0_3, .int .i64 a0_4] 65 ?_; intro a1 hg w45 hbox hb; have a0 := yaa (hbox); have a2 := yaa ((by rw [hg]; exact (yae (upH HB.out)) : w.heap.size ≤ a1)); replace HB := yaa (yaf (upH HB.out) hb); have a3 := a2; clear hb hbox hg; obtain ⟨o2, o3, o4, o5, o6⟩ := cc5_ a0.out; obtain ⟨o7, o8, o9, p0⟩ := cf4_ a0.out; have p1 := yag a0.out 4) | ((with_reducible refine gc_ 50 rfl ?_); refine gl_ (some 49) rfl Tryz.func50 #[.int .i64 a0_1, .int .i64 0, .int .i64 255] ?_; (with_reducible refine (spec_l1In.calls a0_1 0 255 false _ A33.out).mono ?_); rintro e w' ⟨rfl, ⟨nd, rfl⟩⟩; refine ⟨_, rfl, ?_⟩))
   go_ret
   exact ⟨by first | rfl | (simp [*, errW_none, errW_some] <;> rfl), by repeat (with_reducible first | exact HB.out | apply yac | apply yab | apply yad | refine yah ?_ (Aside0.out ‹_›))⟩
  subst c34
  rw [if_pos rfl] at H
  obtain ⟨b3, A35, H⟩ := bindA H; (try dsimp only at H)
  by_cases c36 : b3 = true
  ·
   subst c36
   rw [if_pos rfl] at H
   obtain ⟨b4, A37, H⟩ := bindA H; (try dsimp only at H)
   by_cases c38 : b4 = true
   ·
    subst c38
    rw [if_pos rfl] at H
    obtain rfl := Option.some.inj H
    go_enter Tryz.func81, Tryz.ntmps81
    go_wp2_with (first | ((with_reducible refine gd_ 1 rfl ?_); refine bx_ 1 rfl #[.int .i64 a0_0, .int .i64 a0_1, .int .i64 a0_2, .int .i64 a0_3, .int .i64 a0_4] 65 ?_; intro a1 hg w39 hbox hb; have a0 := yaa (hbox); have a2 := yaa ((by rw [hg]; exact (yae (upH HB.out)) : w.heap.size ≤ a1)); replace HB := yaa (yaf (upH HB.out) hb); have a3 := a2; clear hb hbox hg; obtain ⟨l2, l3, l4, l5, l6⟩ := cc5_ a0.out; obtain ⟨l7, l8, l9, m0⟩ := cf4_ a0.out; have m1 := yag a0.out 4) | ((with_reducible refine gc_ 50 rfl ?_); refine gl_ (some 49) rfl Tryz.func50 #[.int .i64 a0_1, .int .i64 0, .int .i64 255] ?_; (with_reducible refine (spec_l1In.calls a0_1 0 255 true _ A33.out).mono ?_); rintro e w' ⟨rfl, ⟨nd, rfl⟩⟩; refine ⟨_, rfl, ?_⟩) | (go_at_call 50; (with_reducible refine (spec_l1In.calls a0_2 0 255 true _ A35.out).mono ?_); rintro e w' ⟨rfl, ⟨nd, rfl⟩⟩) | (go_at_call 50; (with_reducible refine (spec_l1In.calls a0_3 0 255 true _ A37.out).mono ?_); rintro e w' ⟨rfl, ⟨nd, rfl⟩⟩))
    go_ret
    exact ⟨by first | rfl | (simp [*, errW_none, errW_some] <;> rfl), by repeat (with_reducible first | exact HB.out | apply yac | apply yab | apply yad | refine yah ?_ (Aside0.out ‹_›))⟩
   replace c38 := Bool.eq_false_iff.mpr c38
   subst c38
   rw [if_neg (show ¬ (false = true) by decide)] at H
   obtain rfl := Option.some.inj H
   go_enter Tryz.func81, Tryz.ntmps81
   go_wp2_with (first | ((with_reducible refine gd_ 1 rfl ?_); refine bx_ 1 rfl #[.int .i64 a0_0, .int .i64 a0_1, .int .i64 a0_2, .int .i64 a0_3, .int .i64 a0_4] 65 ?_; intro a1 hg w41 hbox hb; have a0 := yaa (hbox); have a2 := yaa ((by rw [hg]; exact (yae (upH HB.out)) : w.heap.size ≤ a1)); replace HB := yaa (yaf (upH HB.out) hb); have a3 := a2; clear hb hbox hg; obtain ⟨m2, m3, m4, m5, m6⟩ := cc5_ a0.out; obtain ⟨m7, m8, m9, n0⟩ := cf4_ a0.out; have n1 := yag a0.out 4) | ((with_reducible refine gc_ 50 rfl ?_); refine gl_ (some 49) rfl Tryz.func50 #[.int .i64 a0_1, .int .i64 0, .int .i64 255] ?_; (with_reducible refine (spec_l1In.calls a0_1 0 255 true _ A33.out).mono ?_); rintro e w' ⟨rfl, ⟨nd, rfl⟩⟩; refine ⟨_, rfl, ?_⟩) | (go_at_call 50; (with_reducible refine (spec_l1In.calls a0_2 0 255 true _ A35.out).mono ?_); rintro e w' ⟨rfl, ⟨nd, rfl⟩⟩) | (go_at_call 50; (with_reducible refine (spec_l1In.calls a0_3 0 255 false _ A37.out).mono ?_); rintro e w' ⟨rfl, ⟨nd, rfl⟩⟩))
   go_ret
   exact ⟨by first | rfl | (simp [*, errW_none, errW_some] <;> rfl), by repeat (with_reducible first | exact HB.out | apply yac | apply yab | apply yad | refine yah ?_ (Aside0.out ‹_›))⟩
  replace c36 := Bool.eq_false_iff.mpr c36
  subst c36
  rw [if_neg (show ¬ (false = true) by decide)] at H
  obtain rfl := Option.some.inj H
  go_enter Tryz.func81, Tryz.ntmps81
  go_wp2_with (first | ((with_reducible refine gd_ 1 rfl ?_); refine bx_ 1 rfl #[.int .i64 a0_0, .int .i64 a0_1, .int .i64 a0_2, .int .i64 a0_3, .int .i64 a0_4] 65 ?_; intro a1 hg w43 hbox hb; have a0 := yaa (hbox); have a2 := yaa ((by rw [hg]; exact (yae (upH HB.out)) : w.heap.size ≤ a1)); replace HB := yaa (yaf (upH HB.out) hb); have a3 := a2; clear hb hbox hg; obtain ⟨n2, n3, n4, n5, n6⟩ := cc5_ a0.out; obtain ⟨n7, n8, n9, o0⟩ := cf4_ a0.out; have o1 := yag a0.out 4) | ((with_reducible refine gc_ 50 rfl ?_); refine gl_ (some 49) rfl Tryz.func50 #[.int .i64 a0_1, .int .i64 0, .int .i64 255] ?_; (with_reducible refine (spec_l1In.calls a0_1 0 255 true _ A33.out).mono ?_); rintro e w' ⟨rfl, ⟨nd, rfl⟩⟩; refine ⟨_, rfl, ?_⟩) | (go_at_call 50; (with_reducible refine (spec_l1In.calls a0_2 0 255 false _ A35.out).mono ?_); rintro e w' ⟨rfl, ⟨nd, rfl⟩⟩))
  go_ret
  exact ⟨by first | rfl | (simp [*, errW_none, errW_some] <;> rfl), by repeat (with_reducible first | exact HB.out | apply yac | apply yab | apply yad | refine yah ?_ (Aside0.out ‹_›))⟩
 rw [if_neg c32] at H
 have c0 := beq_eq_false_iff_ne.mpr c32; have c1 := bne_iff_ne.mpr c32; obtain ⟨b5, A47, H⟩ := bindA H; (try dsimp only at H)
 by_cases c48 : b5 = true
 rotate_left
 ·
  replace c48 := Bool.eq_false_iff.mpr c48
  subst c48
  rw [if_neg (show ¬ (false = true) by decide)] at H
  obtain rfl := Option.some.inj H
  go_enter Tryz.func81, Tryz.ntmps81
  go_wp2_with (first | ((with_reducible refine gd_ 1 rfl ?_); refine bx_ 1 rfl #[.int .i64 a0_0, .int .i64 a0_1, .int .i64 a0_2, .int .i64 a0_3, .int .i64 a0_4] 65 ?_; intro a1 hg w60 hbox hb; have a0 := yaa (hbox); have a2 := yaa ((by rw [hg]; exact (yae (upH HB.out)) : w.heap.size ≤ a1)); replace HB := yaa (yaf (upH HB.out) hb); have a3 := a2; clear hb hbox hg; obtain ⟨t2, t3, t4, t5, t6⟩ := cc5_ a0.out; obtain ⟨t7, t8, t9, u0⟩ := cf4_ a0.out; have u1 := yag a0.out 4) | ((with_reducible refine gc_ 50 rfl ?_); refine gl_ (some 67) rfl Tryz.func50 #[.int .i64 a0_0, .int .i64 2, .int .i64 6] ?_; (with_reducible refine (spec_l1In.calls a0_0 2 6 false _ A47.out).mono ?_); rintro e w' ⟨rfl, ⟨nd, rfl⟩⟩; refine ⟨_, rfl, ?_⟩))
  go_ret
  exact ⟨by first | rfl | (simp [*, errW_none, errW_some] <;> rfl), by repeat (with_reducible first | exact HB.out | apply yac | apply yab | apply yad | refine yah ?_ (Aside0.out ‹_›))⟩
 subst c48
 rw [if_pos rfl] at H
 by_cases c49 : a0_1 = 0
 rotate_left
 ·
  rw [if_neg c49] at H
  have c3 := beq_eq_false_iff_ne.mpr c49; have c5 := bne_iff_ne.mpr c49; obtain rfl := Option.some.inj H
  go_enter Tryz.func81, Tryz.ntmps81
  go_wp2_with (first | ((with_reducible refine gd_ 1 rfl ?_); refine bx_ 1 rfl #[.int .i64 a0_0, .int .i64 a0_1, .int .i64 a0_2, .int .i64 a0_3, .int .i64 a0_4] 65 ?_; intro a1 hg w58 hbox hb; have a0 := yaa (hbox); have a2 := yaa ((by rw [hg]; exact (yae (upH HB.out)) : w.heap.size ≤ a1)); replace HB := yaa (yaf (upH HB.out) hb); have a3 := a2; clear hb hbox hg; obtain ⟨s2, s3, s4, s5, s6⟩ := cc5_ a0.out; obtain ⟨s7, s8, s9, t0⟩ := cf4_ a0.out; have t1 := yag a0.out 4) | ((with_reducible refine gc_ 50 rfl ?_); refine gl_ (some 67) rfl Tryz.func50 #[.int .i64 a0_0, .int .i64 2, .int .i64 6] ?_; (with_reducible refine (spec_l1In.calls a0_0 2 6 true _ A47.out).mono ?_); rintro e w' ⟨rfl, ⟨nd, rfl⟩⟩; refine ⟨_, rfl, ?_⟩))
  go_ret
  exact ⟨by first | rfl | (simp [*, errW_none, errW_some] <;> rfl), by repeat (with_reducible first | exact HB.out | apply yac | apply yab | apply yad | refine yah ?_ (Aside0.out ‹_›))⟩
 rw [if_pos c49] at H
 have c3 := beq_iff_eq.mpr c49; have c5 := bne_eq_false_iff_eq.mpr c49; clear c49
 by_cases c50 : a0_2 = 0
 ·
  rw [if_pos c50] at H
  have c7 := beq_iff_eq.mpr c50; have c9 := bne_eq_false_iff_eq.mpr c50; clear c50
  by_cases c51 : a0_3 = 0
  ·
   rw [if_pos c51] at H
   have d0 := beq_iff_eq.mpr c51; have d1 := bne_eq_false_iff_eq.mpr c51; clear c51; obtain rfl := Option.some.inj H
   go_enter Tryz.func81, Tryz.ntmps81
   go_wp2_with (first | ((with_reducible refine gd_ 1 rfl ?_); refine bx_ 1 rfl #[.int .i64 a0_0, .int .i64 a0_1, .int .i64 a0_2, .int .i64 a0_3, .int .i64 a0_4] 65 ?_; intro a1 hg w52 hbox hb; have a0 := yaa (hbox); have a2 := yaa ((by rw [hg]; exact (yae (upH HB.out)) : w.heap.size ≤ a1)); replace HB := yaa (yaf (upH HB.out) hb); have a3 := a2; clear hb hbox hg; obtain ⟨p2, p3, p4, p5, p6⟩ := cc5_ a0.out; obtain ⟨p7, p8, p9, q0⟩ := cf4_ a0.out; have q1 := yag a0.out 4) | ((with_reducible refine gc_ 50 rfl ?_); refine gl_ (some 67) rfl Tryz.func50 #[.int .i64 a0_0, .int .i64 2, .int .i64 6] ?_; (with_reducible refine (spec_l1In.calls a0_0 2 6 true _ A47.out).mono ?_); rintro e w' ⟨rfl, ⟨nd, rfl⟩⟩; refine ⟨_, rfl, ?_⟩))
   go_ret
   exact ⟨by first | rfl | (simp [*, errW_none, errW_some] <;> rfl), by repeat (with_reducible first | exact HB.out | apply yac | apply yab | apply yad | refine yah ?_ (Aside0.out ‹_›))⟩
  rw [if_neg c51] at H
  have d0 := beq_eq_false_iff_ne.mpr c51; have d1 := bne_iff_ne.mpr c51; obtain rfl := Option.some.inj H
  go_enter Tryz.func81, Tryz.ntmps81
  go_wp2_with (first | ((with_reducible refine gd_ 1 rfl ?_); refine bx_ 1 rfl #[.int .i64 a0_0, .int .i64 a0_1, .int .i64 a0_2, .int .i64 a0_3, .int .i64 a0_4] 65 ?_; intro a1 hg w54 hbox hb; have a0 := yaa (hbox); have a2 := yaa ((by rw [hg]; exact (yae (upH HB.out)) : w.heap.size ≤ a1)); replace HB := yaa (yaf (upH HB.out) hb); have a3 := a2; clear hb hbox hg; obtain ⟨q2, q3, q4, q5, q6⟩ := cc5_ a0.out; obtain ⟨q7, q8, q9, r0⟩ := cf4_ a0.out; have r1 := yag a0.out 4) | ((with_reducible refine gc_ 50 rfl ?_); refine gl_ (some 67) rfl Tryz.func50 #[.int .i64 a0_0, .int .i64 2, .int .i64 6] ?_; (with_reducible refine (spec_l1In.calls a0_0 2 6 true _ A47.out).mono ?_); rintro e w' ⟨rfl, ⟨nd, rfl⟩⟩; refine ⟨_, rfl, ?_⟩))
  go_ret
  exact ⟨by first | rfl | (simp [*, errW_none, errW_some] <;> rfl), by repeat (with_reducible first | exact HB.out | apply yac | apply yab | apply yad | refine yah ?_ (Aside0.out ‹_›))⟩
 rw [if_neg c50] at H
 have c7 := beq_eq_false_iff_ne.mpr c50; have c9 := bne_iff_ne.mpr c50; obtain rfl := Option.some.inj H
 go_enter Tryz.func81, Tryz.ntmps81
 go_wp2_with (first | ((with_reducible refine gd_ 1 rfl ?_); refine bx_ 1 rfl #[.int .i64 a0_0, .int .i64 a0_1, .int .i64 a0_2, .int .i64 a0_3, .int .i64 a0_4] 65 ?_; intro a1 hg w56 hbox hb; have a0 := yaa (hbox); have a2 := yaa ((by rw [hg]; exact (yae (upH HB.out)) : w.heap.size ≤ a1)); replace HB := yaa (yaf (upH HB.out) hb); have a3 := a2; clear hb hbox hg; obtain ⟨r2, r3, r4, r5, r6⟩ := cc5_ a0.out; obtain ⟨r7, r8, r9, s0⟩ := cf4_ a0.out; have s1 := yag a0.out 4) | ((with_reducible refine gc_ 50 rfl ?_); refine gl_ (some 67) rfl Tryz.func50 #[.int .i64 a0_0, .int .i64 2, .int .i64 6] ?_; (with_reducible refine (spec_l1In.calls a0_0 2 6 true _ A47.out).mono ?_); rintro e w' ⟨rfl, ⟨nd, rfl⟩⟩; refine ⟨_, rfl, ?_⟩))
 go_ret
 exact ⟨by first | rfl | (simp [*, errW_none, errW_some] <;> rfl), by repeat (with_reducible first | exact HB.out | apply yac | apply yab | apply yad | refine yah ?_ (Aside0.out ‹_›))⟩
end
section
def spec_l6All.l0 : Nat → List (S65) → Int → Option (Bool)
 | 0, _, _ => none
 | k + 1, x0, x3 => if x3 < (x0.length : Int) then (if 0 ≤ x3 then ((spec_OpOk.f ((rd_T65 x0 x3).f0) ((rd_T65 x0 x3).f1) ((rd_T65 x0 x3).f2) ((rd_T65 x0 x3).f3) ((rd_T65 x0 x3).f4)).bind fun t102 => (if t102 = true then (spec_l6All.l0 k x0 (wrap64 (x3 + 1))) else (some false))) else (none)) else (some (decide ((x0.length : Int) ≤ 5)))
def spec_l6All.f (k : Nat) (l0 : List (S65)) : Option (Bool) := spec_l6All.l0 k l0 0
set_option maxHeartbeats 8000000 in
set_option maxRecDepth 100000 in
theorem spec_l6All.calls (k : Nat) (A0 : Option Addr) (c0 : Nat) (l0 : List (S65)) (r : Bool) (w : World) (hr0 : Kd.C k65 w A0 l0.length l0) (hc0 : l0.length ≤ c0) (h : spec_l6All.f k l0 = some r) :
  Calls Tryz.prog 48 #[.slice A0 l0.length c0] w fun e w' => e = .returned (.bool r) ∧ Below w.heap.size w w' := by
 have hu65 := Tryz.underlying65; have HR0 := Aside0.mk hr0; have HC0 := Aside0.mk hc0; clear hr0 hc0; have HB := Aside0.mk (Below.refl w.heap.size w); have H : (spec_l6All.l0 k l0 0) = some r := h; clear h; have H' := Aside0.mk H; clear H
 go_enter Tryz.func48, Tryz.ntmps48
 go_wp2
 (try simp only [Act.put, List.setIfInBounds_toArray, List.set_cons_zero, List.set_cons_succ])
 go_loopg [3] k (fun kq v3 w' => ∃ (a1 : Int), v3 = .int .i64 a1 ∧ Aside0 (spec_l6All.l0 kq l0 a1 = some r) ∧ Aside0 (kq ≤ k) ∧ Aside0 (Below w.heap.size w w'))
 case atStart => exact ⟨(0), (by first | rfl | (simp; done) | (simp [*]; done)), H', ⟨Nat.le_refl _⟩, ⟨upH HB.out⟩⟩
 case round =>
  clear H'; obtain ⟨a1, rfl, HA, HK1, HB⟩ := hrel
  cases gk with
  | zero => exact absurd HA.out (by simp [spec_l6All.l0])
  | succ k1 =>
   have H := HA.out; clear HA
   simp only [spec_l6All.l0] at H
   by_cases c2 : a1 < (l0.length : Int)
   rotate_left
   ·
    rw [if_neg c2] at H
    have a8 : decide (a1 < (l0.length : Int)) = false := decide_eq_false c2; clear c2; obtain rfl := Option.some.inj H
    go_wp2
    go_ret
    exact ⟨by first | rfl | (simp [*, errW_none, errW_some] <;> rfl), upH HB.out⟩
   rw [if_pos c2] at H
   have a8 : decide (a1 < (l0.length : Int)) = true := decide_eq_true c2; clear c2
   by_cases c3 : 0 ≤ a1
   rotate_left
   ·
    rw [if_neg c3] at H
    exact absurd H (by simp)
   rw [if_pos c3] at H
   replace c3 := decide_eq_true c3; obtain ⟨a9, A4, H⟩ := bindA H; (try dsimp only at H)
   by_cases c5 : a9 = true
   ·
    subst c5
    rw [if_pos rfl] at H
    have H' := Aside0.mk H; clear H; have p101 : 0 ≤ (a1 : Int) := of_decide_eq_true (by assumption); have q101 : a1 < (l0.length : Int) := of_decide_eq_true (by assumption); obtain ⟨ad101, a7, a2, a3, a4, a5, a6⟩ := at_T65 HR0.out a1 p101 q101
    cases a7
    replace a2 := (upc_ HB.out a2 :); replace a3 := (upc_ HB.out a3 :); replace a4 := (upc_ HB.out a4 :); replace a5 := (upc_ HB.out a5 :); replace a6 := (upc_ HB.out a6 :); replace p101 := eq_true p101; replace q101 := eq_true q101
    go_wp2_with (first | ((with_reducible refine gc_ 81 rfl ?_); refine gl_ (some 14) rfl Tryz.func81 #[.agg #[.int .i64 ((rd_T65 l0 a1).f0), .int .i64 ((rd_T65 l0 a1).f1), .int .i64 ((rd_T65 l0 a1).f2), .int .i64 ((rd_T65 l0 a1).f3), .int .i64 ((rd_T65 l0 a1).f4)]] ?_; (with_reducible refine (spec_OpOk.calls ((rd_T65 l0 a1).f0) ((rd_T65 l0 a1).f1) ((rd_T65 l0 a1).f2) ((rd_T65 l0 a1).f3) ((rd_T65 l0 a1).f4) true _ A4.out).mono ?_); rintro e w6 ⟨rfl, hb⟩; refine ⟨_, rfl, ?_⟩; replace HB := Aside0.mk (below_step (upH HB.out) hb); (try clear hb)))
    go_roundg k1
    case measure => have := HK1.out; omega
    case rel => exact ⟨(wrap64 (a1 + 1)), (by first | rfl | (simp; done) | (simp [*]; done)), H', ⟨by have := HK1.out; omega⟩, ⟨upH HB.out⟩⟩
   replace c5 := Bool.eq_false_iff.mpr c5
   subst c5
   rw [if_neg (show ¬ (false = true) by decide)] at H
   obtain rfl := Option.some.inj H; have p101 : 0 ≤ (a1 : Int) := of_decide_eq_true (by assumption); have q101 : a1 < (l0.length : Int) := of_decide_eq_true (by assumption); obtain ⟨ad101, a7, a2, a3, a4, a5, a6⟩ := at_T65 HR0.out a1 p101 q101
   cases a7
   replace a2 := (upc_ HB.out a2 :); replace a3 := (upc_ HB.out a3 :); replace a4 := (upc_ HB.out a4 :); replace a5 := (upc_ HB.out a5 :); replace a6 := (upc_ HB.out a6 :); replace p101 := eq_true p101; replace q101 := eq_true q101
   go_wp2_with (first | ((with_reducible refine gc_ 81 rfl ?_); refine gl_ (some 14) rfl Tryz.func81 #[.agg #[.int .i64 ((rd_T65 l0 a1).f0), .int .i64 ((rd_T65 l0 a1).f1), .int .i64 ((rd_T65 l0 a1).f2), .int .i64 ((rd_T65 l0 a1).f3), .int .i64 ((rd_T65 l0 a1).f4)]] ?_; (with_reducible refine (spec_OpOk.calls ((rd_T65 l0 a1).f0) ((rd_T65 l0 a1).f1) ((rd_T65 l0 a1).f2) ((rd_T65 l0 a1).f3) ((rd_T65 l0 a1).f4) false _ A4.out).mono ?_); rintro e w7 ⟨rfl, hb⟩; refine ⟨_, rfl, ?_⟩; replace HB := Aside0.mk (below_step (upH HB.out) hb); (try clear hb)))
   go_ret
   exact ⟨by first | rfl | (simp [*, errW_none, errW_some] <;> rfl), upH HB.out⟩
end
section
mutual
def spec_l7Path.j0 : Nat → ByteArray → Bool → Option (Bool)
 | 0, _, _ => none
 | k + 1, x0, x11 => if x11 = true then (some false) else (spec_l7Path.l0 k x0 0)
def spec_l7Path.l0 : Nat → ByteArray → Int → Option (Bool)
 | 0, _, _ => none
 | k + 1, x0, x3 => if x3 < (x0.size : Int) then (if 0 ≤ x3 then (if (bt x0 x3) < 97 then (if (bt x0 x3) < 48 then (some false) else (if (bt x0 x3) > 57 then (some false) else (spec_l7Path.l0 k x0 (wrap64 (x3 + 1))))) else (if (bt x0 x3) > 122 then (if (bt x0 x3) < 48 then (some false) else (if (bt x0 x3) > 57 then (some false) else (spec_l7Path.l0 k x0 (wrap64 (x3 + 1))))) else (spec_l7Path.l0 k x0 (wrap64 (x3 + 1))))) else (none)) else (some true)
end
def spec_l7Path.f (k : Nat) (a0 : ByteArray) : Option (Bool) := if (a0.size : Int) = 0 then (spec_l7Path.j0 k a0 true) else (spec_l7Path.j0 k a0 (decide ((a0.size : Int) > 6)))
set_option maxHeartbeats 8000000 in
set_option maxRecDepth 100000 in
theorem spec_l7Path.calls (k : Nat) (a0 : ByteArray) (r : Bool) (w : World) (h : spec_l7Path.f k a0 = some r) :
  Calls Tryz.prog 49 #[.string a0] w fun e w' => e = .returned (.bool r) ∧ Drawn0 w w' := by
 have H : (if (a0.size : Int) = 0 then (spec_l7Path.j0 k a0 true) else (spec_l7Path.j0 k a0 (decide ((a0.size : Int) > 6)))) = some r := h; clear h; have HC2 := Aside0.mk H; clear H
 go_enter Tryz.func49, Tryz.ntmps49
 go_upto_region 1 with (fail)
 go_cut [11] (fun v11 wc => ∃ (kq : Nat) (a3 : Bool), v11 = .bool a3 ∧ Aside0 (spec_l7Path.j0 kq a0 a3 = some r) ∧ Aside0 (kq ≤ k) ∧ Drawn0 w wc)
 case first =>
  have H := HC2.out; clear HC2
  by_cases c3 : (a0.size : Int) = 0
  ·
   rw [if_pos c3] at H
   have a2 := beq_iff_eq.mpr c3; have a4 := bne_eq_false_iff_eq.mpr c3; clear c3
   (first | rw [a2] | (simp only [i64_w, i32_w]; rw [a2]) | skip)
   have H' := Aside0.mk H; clear H
   go_wp2
   go_meet
   case rel => exact ⟨_, (true), (by first | rfl | (simp; done) | (simp [*]; done)), H', ⟨by first | omega | exact Nat.le_refl _⟩, by repeat (first | exact Drawn0.refl _ | apply Drawn0.step)⟩
  rw [if_neg c3] at H
  have a2 := beq_eq_false_iff_ne.mpr c3; have a4 := bne_iff_ne.mpr c3
  (first | rw [a2] | (simp only [i64_w, i32_w]; rw [a2]) | skip)
  have H' := Aside0.mk H; clear H
  go_wp2
  go_meet
  case rel => exact ⟨_, (decide ((a0.size : Int) > 6)), (by first | rfl | (simp; done) | (simp [*]; done)), H', ⟨by first | omega | exact Nat.le_refl _⟩, by repeat (first | exact Drawn0.refl _ | apply Drawn0.step)⟩
 case rest =>
  clear HC2; (try clear p2); (try clear c3); (try clear a2); (try clear a4); obtain ⟨kq, a3, rfl, HA, HJ1, ⟨mc1, rfl⟩⟩ := hcut
  cases kq with
  | zero => exact absurd HA.out (by simp [spec_l7Path.j0])
  | succ kj1 =>
   have H := HA.out; clear HA
   simp only [spec_l7Path.j0] at H
   by_cases c4 : a3 = true
   ·
    subst c4
    rw [if_pos rfl] at H
    obtain rfl := Option.some.inj H
    go_wp2
    go_ret
    exact ⟨by first | rfl | (simp; done) | (simp [*]; done), by repeat (first | exact Drawn0.refl _ | apply Drawn0.step)⟩
   replace c4 := Bool.eq_false_iff.mpr c4
   subst c4
   rw [if_neg (show ¬ (false = true) by decide)] at H
   have H' := Aside0.mk H; clear H
   go_wp2
   (try simp only [Act.put, List.setIfInBounds_toArray, List.set_cons_zero, List.set_cons_succ])
   go_loopg [3] kj1 (fun kq v3 w' => ∃ (a1 : Int), v3 = .int .i64 a1 ∧ Aside0 (spec_l7Path.l0 kq a0 a1 = some r) ∧ Aside0 (kq ≤ kj1) ∧ Drawn0 w w')
   case atStart => exact ⟨(0), (by first | rfl | (simp; done) | (simp [*]; done)), H', ⟨Nat.le_refl _⟩, by repeat (first | exact Drawn0.refl _ | apply Drawn0.step)⟩
   case round =>
    clear H'; (try clear c1); (try clear p2); (try clear c3); (try clear a2); (try clear a4); (try clear c4); (try clear p2); obtain ⟨a1, rfl, HA, HK2, ⟨m2, rfl⟩⟩ := hrel
    cases gk with
    | zero => exact absurd HA.out (by simp [spec_l7Path.l0])
    | succ k2 =>
     have H := HA.out; clear HA
     simp only [spec_l7Path.l0] at H
     by_cases c5 : a1 < (a0.size : Int)
     rotate_left
     ·
      rw [if_neg c5] at H
      have b2 : decide (a1 < (a0.size : Int)) = false := decide_eq_false c5; clear c5; obtain rfl := Option.some.inj H
      go_wp2
      go_ret
      exact ⟨by first | rfl | (simp; done) | (simp [*]; done), by repeat (first | exact Drawn0.refl _ | apply Drawn0.step)⟩
     rw [if_pos c5] at H
     have b2 : decide (a1 < (a0.size : Int)) = true := decide_eq_true c5; clear c5
     by_cases c6 : 0 ≤ a1
     rotate_left
     ·
      rw [if_neg c6] at H
      exact absurd H (by simp)
     rw [if_pos c6] at H
     replace c6 := decide_eq_true c6
     by_cases c8 : (bt a0 a1) < 97
     ·
      rw [if_pos c8] at H
      have b3 : decide ((bt a0 a1) < 97) = true := decide_eq_true c8; clear c8
      by_cases c10 : (bt a0 a1) < 48
      ·
       rw [if_pos c10] at H
       have a6 : decide ((bt a0 a1) < 48) = true := decide_eq_true c10; clear c10; obtain rfl := Option.some.inj H; have p7 : 0 ≤ (a1 : Int) := of_decide_eq_true (by assumption); have q7 : a1 < (a0.size : Int) := of_decide_eq_true (by assumption); have hx7 := bt_at a0 a1; replace p7 := eq_true p7; replace q7 := eq_true q7; have p9 : 0 ≤ (a1 : Int) := of_decide_eq_true (by assumption); have q9 : a1 < (a0.size : Int) := of_decide_eq_true (by assumption); have hx9 := bt_at a0 a1; replace p9 := eq_true p9; replace q9 := eq_true q9
       go_wp2
       go_ret
       exact ⟨by first | rfl | (simp; done) | (simp [*]; done), by repeat (first | exact Drawn0.refl _ | apply Drawn0.step)⟩
      rw [if_neg c10] at H
      have a6 : decide ((bt a0 a1) < 48) = false := decide_eq_false c10; clear c10
      by_cases c12 : (bt a0 a1) > 57
      ·
       rw [if_pos c12] at H
       have a7 : decide (57 < (bt a0 a1)) = true := decide_eq_true c12; clear c12; obtain rfl := Option.some.inj H; have p7 : 0 ≤ (a1 : Int) := of_decide_eq_true (by assumption); have q7 : a1 < (a0.size : Int) := of_decide_eq_true (by assumption); have hx7 := bt_at a0 a1; replace p7 := eq_true p7; replace q7 := eq_true q7; have p9 : 0 ≤ (a1 : Int) := of_decide_eq_true (by assumption); have q9 : a1 < (a0.size : Int) := of_decide_eq_true (by assumption); have hx9 := bt_at a0 a1; replace p9 := eq_true p9; replace q9 := eq_true q9; have p11 : 0 ≤ (a1 : Int) := of_decide_eq_true (by assumption); have q11 : a1 < (a0.size : Int) := of_decide_eq_true (by assumption); have b4 := bt_at a0 a1; replace p11 := eq_true p11; replace q11 := eq_true q11
       go_wp2
       go_ret
       exact ⟨by first | rfl | (simp; done) | (simp [*]; done), by repeat (first | exact Drawn0.refl _ | apply Drawn0.step)⟩
      rw [if_neg c12] at H
      have a7 : decide (57 < (bt a0 a1)) = false := decide_eq_false c12; clear c12; have H' := Aside0.mk H; clear H; have p7 : 0 ≤ (a1 : Int) := of_decide_eq_true (by assumption); have q7 : a1 < (a0.size : Int) := of_decide_eq_true (by assumption); have hx7 := bt_at a0 a1; replace p7 := eq_true p7; replace q7 := eq_true q7; have p9 : 0 ≤ (a1 : Int) := of_decide_eq_true (by assumption); have q9 : a1 < (a0.size : Int) := of_decide_eq_true (by assumption); have hx9 := bt_at a0 a1; replace p9 := eq_true p9; replace q9 := eq_true q9; have p11 : 0 ≤ (a1 : Int) := of_decide_eq_true (by assumption); have q11 : a1 < (a0.size : Int) := of_decide_eq_true (by assumption); have b4 := bt_at a0 a1; replace p11 := eq_true p11; replace q11 := eq_true q11
      go_wp2
      go_roundg k2
      case measure => have := HJ1.out; have := HK2.out; omega
      case rel => exact ⟨(wrap64 (a1 + 1)), (by first | rfl | (simp; done) | (simp [*]; done)), H', ⟨by have := HJ1.out; have := HK2.out; omega⟩, by repeat (first | exact Drawn0.refl _ | apply Drawn0.step)⟩
     rw [if_neg c8] at H
     have b3 : decide ((bt a0 a1) < 97) = false := decide_eq_false c8; clear c8
     by_cases c14 : (bt a0 a1) > 122
     ·
      rw [if_pos c14] at H
      have a8 : decide (122 < (bt a0 a1)) = true := decide_eq_true c14; clear c14
      by_cases c16 : (bt a0 a1) < 48
      ·
       rw [if_pos c16] at H
       have a9 : decide ((bt a0 a1) < 48) = true := decide_eq_true c16; clear c16; obtain rfl := Option.some.inj H; have p7 : 0 ≤ (a1 : Int) := of_decide_eq_true (by assumption); have q7 : a1 < (a0.size : Int) := of_decide_eq_true (by assumption); have hx7 := bt_at a0 a1; replace p7 := eq_true p7; replace q7 := eq_true q7; have p13 : 0 ≤ (a1 : Int) := of_decide_eq_true (by assumption); have q13 : a1 < (a0.size : Int) := of_decide_eq_true (by assumption); have a5 := bt_at a0 a1; replace p13 := eq_true p13; replace q13 := eq_true q13; have p15 : 0 ≤ (a1 : Int) := of_decide_eq_true (by assumption); have q15 : a1 < (a0.size : Int) := of_decide_eq_true (by assumption); have b0 := bt_at a0 a1; replace p15 := eq_true p15; replace q15 := eq_true q15
       go_wp2
       go_ret
       exact ⟨by first | rfl | (simp; done) | (simp [*]; done), by repeat (first | exact Drawn0.refl _ | apply Drawn0.step)⟩
      rw [if_neg c16] at H
      have a9 : decide ((bt a0 a1) < 48) = false := decide_eq_false c16; clear c16
      by_cases c18 : (bt a0 a1) > 57
      ·
       rw [if_pos c18] at H
       have b1 : decide (57 < (bt a0 a1)) = true := decide_eq_true c18; clear c18; obtain rfl := Option.some.inj H; have p7 : 0 ≤ (a1 : Int) := of_decide_eq_true (by assumption); have q7 : a1 < (a0.size : Int) := of_decide_eq_true (by assumption); have hx7 := bt_at a0 a1; replace p7 := eq_true p7; replace q7 := eq_true q7; have p13 : 0 ≤ (a1 : Int) := of_decide_eq_true (by assumption); have q13 : a1 < (a0.size : Int) := of_decide_eq_true (by assumption); have a5 := bt_at a0 a1; replace p13 := eq_true p13; replace q13 := eq_true q13; have p15 : 0 ≤ (a1 : Int) := of_decide_eq_true (by assumption); have q15 : a1 < (a0.size : Int) := of_decide_eq_true (by assumption); have b0 := bt_at a0 a1; replace p15 := eq_true p15; replace q15 := eq_true q15; have p17 : 0 ≤ (a1 : Int) := of_decide_eq_true (by assumption); have q17 : a1 < (a0.size : Int) := of_decide_eq_true (by assumption); have b5 := bt_at a0 a1; replace p17 := eq_true p17; replace q17 := eq_true q17
       go_wp2
       go_ret
       exact ⟨by first | rfl | (simp; done) | (simp [*]; done), by repeat (first | exact Drawn0.refl _ | apply Drawn0.step)⟩
      rw [if_neg c18] at H
      have b1 : decide (57 < (bt a0 a1)) = false := decide_eq_false c18; clear c18; have H' := Aside0.mk H; clear H; have p7 : 0 ≤ (a1 : Int) := of_decide_eq_true (by assumption); have q7 : a1 < (a0.size : Int) := of_decide_eq_true (by assumption); have hx7 := bt_at a0 a1; replace p7 := eq_true p7; replace q7 := eq_true q7; have p13 : 0 ≤ (a1 : Int) := of_decide_eq_true (by assumption); have q13 : a1 < (a0.size : Int) := of_decide_eq_true (by assumption); have a5 := bt_at a0 a1; replace p13 := eq_true p13; replace q13 := eq_true q13; have p15 : 0 ≤ (a1 : Int) := of_decide_eq_true (by assumption); have q15 : a1 < (a0.size : Int) := of_decide_eq_true (by assumption); have b0 := bt_at a0 a1; replace p15 := eq_true p15; replace q15 := eq_true q15; have p17 : 0 ≤ (a1 : Int) := of_decide_eq_true (by assumption); have q17 : a1 < (a0.size : Int) := of_decide_eq_true (by assumption); have b5 := bt_at a0 a1; replace p17 := eq_true p17; replace q17 := eq_true q17
      go_wp2
      go_roundg k2
      case measure => have := HJ1.out; have := HK2.out; omega
      case rel => exact ⟨(wrap64 (a1 + 1)), (by first | rfl | (simp; done) | (simp [*]; done)), H', ⟨by have := HJ1.out; have := HK2.out; omega⟩, by repeat (first | exact Drawn0.refl _ | apply Drawn0.step)⟩
     rw [if_neg c14] at H
     have a8 : decide (122 < (bt a0 a1)) = false := decide_eq_false c14; clear c14; have H' := Aside0.mk H; clear H; have p7 : 0 ≤ (a1 : Int) := of_decide_eq_true (by assumption); have q7 : a1 < (a0.size : Int) := of_decide_eq_true (by assumption); have hx7 := bt_at a0 a1; replace p7 := eq_true p7; replace q7 := eq_true q7; have p13 : 0 ≤ (a1 : Int) := of_decide_eq_true (by assumption); have q13 : a1 < (a0.size : Int) := of_decide_eq_true (by assumption); have a5 := bt_at a0 a1; replace p13 := eq_true p13; replace q13 := eq_true q13
     go_wp2
     go_roundg k2
     case measure => have := HJ1.out; have := HK2.out; omega
     case rel => exact ⟨(wrap64 (a1 + 1)), (by first | rfl | (simp; done) | (simp [*]; done)), H', ⟨by have := HJ1.out; have := HK2.out; omega⟩, by repeat (first | exact Drawn0.refl _ | apply Drawn0.step)⟩
end
section
open Go.Proofs.YtmplnpjdbfedbaaGreatDoorW.PrintWords.Aside0 renaming mk → yaa
def spec_AskOk.f (k : Nat) (l0_0 : List (S65)) (a0_1 : ByteArray) (a0_2 : Int) : Option (Bool) := (spec_l6All.f k l0_0).bind fun t102 => (if t102 = true then ((spec_l7Path.f k a0_1).bind fun t103 => (if t103 = true then ((spec_l1In.f a0_2 0 9999).bind fun t104 => (some t104)) else (some false))) else (some false))
set_option maxHeartbeats 8000000 in
set_option maxRecDepth 100000 in
theorem spec_AskOk.calls (k : Nat) (A0_0 : Option Addr) (c0_0 : Nat) (l0_0 : List (S65)) (a0_1 : ByteArray) (a0_2 : Int) (r : Bool) (w : World) (hr0_0 : Kd.C k65 w A0_0 l0_0.length l0_0) (hc0_0 : l0_0.length ≤ c0_0) (h : spec_AskOk.f k l0_0 a0_1 a0_2 = some r) :
  Calls Tryz.prog 21 #[.agg #[.slice A0_0 l0_0.length c0_0, .string a0_1, .int .i64 a0_2]] w fun e w' => e = .returned (.bool r) ∧ Below w.heap.size w w' := by
 have hu25 := Tryz.underlying25; have HR0_0 := yaa hr0_0; have HC0_0 := yaa hc0_0; clear hr0_0 hc0_0; have HB := yaa (Below.refl w.heap.size w); have H : ((spec_l6All.f k l0_0).bind fun a9 => (if a9 = true then ((spec_l7Path.f k a0_1).bind fun b0 => (if b0 = true then ((spec_l1In.f a0_2 0 9999).bind fun b1 => (some b1)) else (some false))) else (some false))) = some r := h; clear h; obtain ⟨a9, A2, H⟩ := bindA H; (try dsimp only at H)
 by_cases c3 : a9 = true
 ·
  subst c3
  rw [if_pos rfl] at H
  obtain ⟨b0, A4, H⟩ := bindA H; (try dsimp only at H)
  by_cases c5 : b0 = true
  ·
   subst c5
   rw [if_pos rfl] at H
   obtain ⟨b1, A6, H⟩ := bindA H; (try dsimp only at H); obtain rfl := Option.some.inj H
   go_enter Tryz.func21, Tryz.ntmps21
   go_wp2_with (first | ((with_reducible refine gd_ 1 rfl ?_); refine bx_ 1 rfl #[.slice A0_0 l0_0.length c0_0, .string a0_1, .int .i64 a0_2] 25 ?_; intro a4 hg w7 hbox hb; have a3 := yaa (hbox); have a5 := yaa ((by rw [hg]; exact (below_size (upH HB.out)) : w.heap.size ≤ a4)); replace HB := yaa (below_step (upH HB.out) hb); have a8 := a5; clear hb hbox hg; obtain ⟨d8, d9, e0⟩ := cc3_ a3.out; obtain ⟨e1, e2⟩ := cf2_ a3.out; have e3 := blk_frozen a3.out 2) | ((with_reducible refine gc_ 48 rfl ?_); refine gl_ (some 5) rfl Tryz.func48 #[.slice A0_0 l0_0.length c0_0] ?_; (with_reducible refine (spec_l6All.calls k _ _ l0_0 true _ ?side1 ?side2 A2.out).mono ?_); (case side1 => repeat (first | exact (Kd.C_below HR0_0.out HB.out) | (with_reducible refine Kd.C_alloc ?_ _) | (with_reducible refine Kd.C_drewN ?_ _) | (with_reducible refine Kd.C_drew ?_))); (case side2 => exact HC0_0.out); rintro e w9 ⟨rfl, hb⟩; refine ⟨_, rfl, ?_⟩; replace a3 := yaa (blk_below (upB a3.out) hb); replace HB := yaa (below_step (by repeat (with_reducible first | exact HB.out | apply below_alloc | apply pw_below_drewN | apply below_drew1 | refine below_set ?_ (Aside0.out ‹_›))) hb); (try clear hb); obtain ⟨b2, b3, b4⟩ := cc3_ a3.out; obtain ⟨b5, b6⟩ := cf2_ a3.out; have b7 := blk_frozen a3.out 2) | (go_at_call 49; (with_reducible refine (spec_l7Path.calls k a0_1 true _ A4.out).mono ?_); rintro e w' ⟨rfl, ⟨nd, rfl⟩⟩) | (go_at_call 50; (with_reducible refine (spec_l1In.calls a0_2 0 9999 b1 _ A6.out).mono ?_); rintro e w' ⟨rfl, ⟨nd, rfl⟩⟩))
   go_ret
   exact ⟨by first | rfl | (simp [*, errW_none, errW_some] <;> rfl), by repeat (with_reducible first | exact HB.out | apply below_alloc | apply pw_below_drewN | apply below_drew1 | refine below_set ?_ (Aside0.out ‹_›))⟩
  replace c5 := Bool.eq_false_iff.mpr c5
  subst c5
  rw [if_neg (show ¬ (false = true) by decide)] at H
  obtain rfl := Option.some.inj H
  go_enter Tryz.func21, Tryz.ntmps21
  go_wp2_with (first | ((with_reducible refine gd_ 1 rfl ?_); refine bx_ 1 rfl #[.slice A0_0 l0_0.length c0_0, .string a0_1, .int .i64 a0_2] 25 ?_; intro a4 hg w11 hbox hb; have a3 := yaa (hbox); have a5 := yaa ((by rw [hg]; exact (below_size (upH HB.out)) : w.heap.size ≤ a4)); replace HB := yaa (below_step (upH HB.out) hb); have a8 := a5; clear hb hbox hg; obtain ⟨b8, b9, c0⟩ := cc3_ a3.out; obtain ⟨c1, c2⟩ := cf2_ a3.out; have c4 := blk_frozen a3.out 2) | ((with_reducible refine gc_ 48 rfl ?_); refine gl_ (some 5) rfl Tryz.func48 #[.slice A0_0 l0_0.length c0_0] ?_; (with_reducible refine (spec_l6All.calls k _ _ l0_0 true _ ?side1 ?side2 A2.out).mono ?_); (case side1 => repeat (first | exact (Kd.C_below HR0_0.out HB.out) | (with_reducible refine Kd.C_alloc ?_ _) | (with_reducible refine Kd.C_drewN ?_ _) | (with_reducible refine Kd.C_drew ?_))); (case side2 => exact HC0_0.out); rintro e w13 ⟨rfl, hb⟩; refine ⟨_, rfl, ?_⟩; replace a3 := yaa (blk_below (upB a3.out) hb); replace HB := yaa (below_step (by repeat (with_reducible first | exact HB.out | apply below_alloc | apply pw_below_drewN | apply below_drew1 | refine below_set ?_ (Aside0.out ‹_›))) hb); (try clear hb); obtain ⟨c6, c7, c8⟩ := cc3_ a3.out; obtain ⟨c9, d0⟩ := cf2_ a3.out; have d1 := blk_frozen a3.out 2) | (go_at_call 49; (with_reducible refine (spec_l7Path.calls k a0_1 false _ A4.out).mono ?_); rintro e w' ⟨rfl, ⟨nd, rfl⟩⟩))
  go_ret
  exact ⟨by first | rfl | (simp [*, errW_none, errW_some] <;> rfl), by repeat (with_reducible first | exact HB.out | apply below_alloc | apply pw_below_drewN | apply below_drew1 | refine below_set ?_ (Aside0.out ‹_›))⟩
 replace c3 := Bool.eq_false_iff.mpr c3
 subst c3
 rw [if_neg (show ¬ (false = true) by decide)] at H
 obtain rfl := Option.some.inj H
 go_enter Tryz.func21, Tryz.ntmps21
 go_wp2_with (first | ((with_reducible refine gd_ 1 rfl ?_); refine bx_ 1 rfl #[.slice A0_0 l0_0.length c0_0, .string a0_1, .int .i64 a0_2] 25 ?_; intro a4 hg w15 hbox hb; have a3 := yaa (hbox); have a5 := yaa ((by rw [hg]; exact (below_size (upH HB.out)) : w.heap.size ≤ a4)); replace HB := yaa (below_step (upH HB.out) hb); have a8 := a5; clear hb hbox hg; obtain ⟨d2, d3, d4⟩ := cc3_ a3.out; obtain ⟨d5, d6⟩ := cf2_ a3.out; have d7 := blk_frozen a3.out 2) | ((with_reducible refine gc_ 48 rfl ?_); refine gl_ (some 5) rfl Tryz.func48 #[.slice A0_0 l0_0.length c0_0] ?_; (with_reducible refine (spec_l6All.calls k _ _ l0_0 false _ ?side1 ?side2 A2.out).mono ?_); (case side1 => repeat (first | exact (Kd.C_below HR0_0.out HB.out) | (with_reducible refine Kd.C_alloc ?_ _) | (with_reducible refine Kd.C_drewN ?_ _) | (with_reducible refine Kd.C_drew ?_))); (case side2 => exact HC0_0.out); rintro e w17 ⟨rfl, hb⟩; refine ⟨_, rfl, ?_⟩; replace a3 := yaa (blk_below (upB a3.out) hb); replace HB := yaa (below_step (by repeat (with_reducible first | exact HB.out | apply below_alloc | apply pw_below_drewN | apply below_drew1 | refine below_set ?_ (Aside0.out ‹_›))) hb); (try clear hb)))
 go_ret
 exact ⟨by first | rfl | (simp [*, errW_none, errW_some] <;> rfl), by repeat (with_reducible first | exact HB.out | apply below_alloc | apply pw_below_drewN | apply below_drew1 | refine below_set ?_ (Aside0.out ‹_›))⟩
end
section
def spec_l7Plain.l0 : Nat → Int → ByteArray → Option (ByteArray)
 | 0, _, _ => none
 | k + 1, x0, x3 => if x0 > 9 then ((some (([(wrap64 (48 + (Int.tmod x0 10))) % 256] : List Int) : List Int)).bind fun y101 => (if (strOfNums y101).size + x3.size ≤ 9223372036854775807 then (spec_l7Plain.l0 k (wrap64 (Int.tdiv x0 10)) ((strOfNums y101) ++ x3)) else (none))) else ((some (([(wrap64 (48 + x0)) % 256] : List Int) : List Int)).bind fun y104 => (if (strOfNums y104).size + x3.size ≤ 9223372036854775807 then (some ((strOfNums y104) ++ x3)) else (none)))
def spec_l7Plain.f (k : Nat) (a0 : Int) : Option (ByteArray) := spec_l7Plain.l0 k a0 (⟨#[]⟩ : ByteArray)
set_option maxHeartbeats 8000000 in
set_option maxRecDepth 100000 in
theorem spec_l7Plain.calls (k : Nat) (a0 : Int) (r : ByteArray) (w : World) (h : spec_l7Plain.f k a0 = some r) :
  Calls Tryz.prog 52 #[.int .i64 a0] w fun e w' => e = .returned (.string r) ∧ Below w.heap.size w w' := by
 have HB := Aside0.mk (Below.refl w.heap.size w); have H : (spec_l7Plain.l0 k a0 (⟨#[]⟩ : ByteArray)) = some r := h; clear h; have H' := Aside0.mk H; clear H
 go_enter Tryz.func52, Tryz.ntmps52
 go_wp2
 (try simp only [Act.put, List.setIfInBounds_toArray, List.set_cons_zero, List.set_cons_succ])
 go_loopg [0, 3] k (fun kq v0 v3 w' => ∃ (a1 : Int) (a2 : ByteArray), v0 = .int .i64 a1 ∧ v3 = .string a2 ∧ Aside0 (spec_l7Plain.l0 kq a1 a2 = some r) ∧ Aside0 (kq ≤ k) ∧ Aside0 (Below w.heap.size w w'))
 case atStart => exact ⟨(a0), ((⟨#[]⟩ : ByteArray)), (by first | rfl | (simp; done) | (simp [*]; done)), (by first | rfl | (simp; done) | (simp [*]; done)), H', ⟨Nat.le_refl _⟩, ⟨upH HB.out⟩⟩
 case round =>
  clear H'; obtain ⟨a1, a2, rfl, rfl, HA, HK1, HB⟩ := hrel
  cases gk with
  | zero => exact absurd HA.out (by simp [spec_l7Plain.l0])
  | succ k1 =>
   have H := HA.out; clear HA
   simp only [spec_l7Plain.l0] at H
   by_cases c2 : a1 > 9
   ·
    rw [if_pos c2] at H
    have a5 : decide (9 < a1) = true := decide_eq_true c2; clear c2; obtain ⟨y101, hy101⟩ : ∃ y_ : List Int, y_ = (([(wrap64 (48 + (Int.tmod a1 10))) % 256] : List Int)) := ⟨_, rfl⟩
    replace H : (if (strOfNums y101).size + a2.size ≤ 9223372036854775807 then (spec_l7Plain.l0 k1 (wrap64 (Int.tdiv a1 10)) ((strOfNums y101) ++ a2)) else (none)) = some r := by first | (rw [hy101]; with_reducible exact H) | (have H2_ := (Option.bind_some _ _).symm.trans H; rw [hy101]; with_reducible exact H2_) | (have H2_ := (Option.bind_some _ _).symm.trans H; with_reducible exact H2_) | with_reducible exact H | (rw [hy101]; exact H) | exact H
    have Ny101 := Aside0.mk hy101; clear hy101
    by_cases c3 : (strOfNums y101).size + a2.size ≤ 9223372036854775807
    ·
     rw [if_pos c3] at H
     have a6 := eq_true c3; have a7 : decide ((strOfNums y101).size + a2.size ≤ 9223372036854775807) = true := decide_eq_true c3
     try have a8 : (9223372036854775807 < (strOfNums y101).size + a2.size) = False := eq_false (Nat.not_lt.2 c3)
     have H' := Aside0.mk H; clear H
     go_wp2_with (first | ((with_reducible refine gd_ 10 rfl ?_); refine Kd.R_lit (Kd.int .u8) _ 5 ?hg (N := 10) ?hd (xs := ([(wrap64 (48 + (Int.tmod a1 10))) % 256] : List Int)) (inner := [.int .u8 ((wrap64 (48 + (Int.tmod a1 10))) % 256)]) (ok := fun _ => True) (okp := fun _ => True) ?hr ?hp (fun _ hk => hk) trivial (Below.refl _ _) (Nat.le_refl _) (by simp) ?_; (case hd => rfl); (case hg => rfl); (case hr => first | (go_simp; done) | (go_simp; rfl)); (case hp => exact (Reps.one (show Kd.M (Kd.int .u8) _ _ _ ((wrap64 (48 + (Int.tmod a1 10))) % 256) [.int .u8 ((wrap64 (48 + (Int.tmod a1 10))) % 256)] from rfl) (Reps.none _ _))); intro a9 w4 ho5 hb hg_ hnew_; clear hg_ hnew_; (first | rw [← Ny101.out] at ho5 | (simp only [Int.reduceToNat] at ho5; rw [← Ny101.out] at ho5)); have a3 := Aside0.mk (Kd.R_lower ho5 (below_size (upH HB.out))); replace HB := Aside0.mk (below_step (upH HB.out) hb); clear hb ho5; have hcv6 := own_string (P := Tryz.prog) Tryz.underlying22 Tryz.underlying5 Tryz.underlying9 (Kd.own_of_R a3.out)))
     go_roundg k1
     case measure => have := HK1.out; omega
     case rel => exact ⟨(wrap64 (Int.tdiv a1 10)), ((strOfNums y101) ++ a2), (by first | rfl | (simp; done) | (simp [*]; done)), (by first | rfl | (simp; done) | (simp [*]; done)), H', ⟨by have := HK1.out; omega⟩, ⟨upH HB.out⟩⟩
    rw [if_neg c3] at H
    exact absurd H (by simp)
   rw [if_neg c2] at H
   have a5 : decide (9 < a1) = false := decide_eq_false c2; clear c2; obtain ⟨y104, hy104⟩ : ∃ y_ : List Int, y_ = (([(wrap64 (48 + a1)) % 256] : List Int)) := ⟨_, rfl⟩
   replace H : (if (strOfNums y104).size + a2.size ≤ 9223372036854775807 then (some ((strOfNums y104) ++ a2)) else (none)) = some r := by first | (rw [hy104]; with_reducible exact H) | (have H2_ := (Option.bind_some _ _).symm.trans H; rw [hy104]; with_reducible exact H2_) | (have H2_ := (Option.bind_some _ _).symm.trans H; with_reducible exact H2_) | with_reducible exact H | (rw [hy104]; exact H) | exact H
   have Ny104 := Aside0.mk hy104; clear hy104
   by_cases c7 : (strOfNums y104).size + a2.size ≤ 9223372036854775807
   ·
    rw [if_pos c7] at H
    have b0 := eq_true c7; have b1 : decide ((strOfNums y104).size + a2.size ≤ 9223372036854775807) = true := decide_eq_true c7
    try have b2 : (9223372036854775807 < (strOfNums y104).size + a2.size) = False := eq_false (Nat.not_lt.2 c7)
    obtain rfl := Option.some.inj H
    go_wp2_with (first | ((with_reducible refine gd_ 19 rfl ?_); refine Kd.R_lit (Kd.int .u8) _ 5 ?hg (N := 19) ?hd (xs := ([(wrap64 (48 + a1)) % 256] : List Int)) (inner := [.int .u8 ((wrap64 (48 + a1)) % 256)]) (ok := fun _ => True) (okp := fun _ => True) ?hr ?hp (fun _ hk => hk) trivial (Below.refl _ _) (Nat.le_refl _) (by simp) ?_; (case hd => rfl); (case hg => rfl); (case hr => first | (go_simp; done) | (go_simp; rfl)); (case hp => exact (Reps.one (show Kd.M (Kd.int .u8) _ _ _ ((wrap64 (48 + a1)) % 256) [.int .u8 ((wrap64 (48 + a1)) % 256)] from rfl) (Reps.none _ _))); intro b3 w8 ho9 hb hg_ hnew_; clear hg_ hnew_; (first | rw [← Ny104.out] at ho9 | (simp only [Int.reduceToNat] at ho9; rw [← Ny104.out] at ho9)); have a4 := Aside0.mk (Kd.R_lower ho9 (below_size (upH HB.out))); replace HB := Aside0.mk (below_step (upH HB.out) hb); clear hb ho9; have hcv10 := own_string (P := Tryz.prog) Tryz.underlying22 Tryz.underlying5 Tryz.underlying9 (Kd.own_of_R a4.out)))
    go_ret
    exact ⟨by first | rfl | (simp [*, errW_none, errW_some] <;> rfl), upH HB.out⟩
   rw [if_neg c7] at H
   exact absurd H (by simp)
end
section
open Go.Proofs.YtmplnpjdbfedbaaGreatDoorW.PrintWords.Reps renaming one → yaa
open Go.Proofs.YtmplnpjdbfedbaaGreatDoorW.PrintWords.Kd renaming string → yab
open Go.Proofs.YtmplnpjdbfedbaaGreatDoorW.PrintWords.Aside0 renaming mk → yac
def spec_l7Word.f (a0 : Int) : Option (ByteArray × Int) := (some (([(⟨#[]⟩ : ByteArray), (⟨#[99, 114, 111, 112]⟩ : ByteArray), (⟨#[102, 108, 105, 112, 120]⟩ : ByteArray), (⟨#[102, 108, 105, 112, 121]⟩ : ByteArray), (⟨#[116, 117, 114, 110]⟩ : ByteArray), (⟨#[103, 114, 97, 121]⟩ : ByteArray), (⟨#[98, 108, 117, 114]⟩ : ByteArray), (⟨#[115, 105, 122, 101]⟩ : ByteArray), (⟨#[102, 108, 97, 116]⟩ : ByteArray)] : List ByteArray) : List ByteArray)).bind fun y101 => ((some (([0, 4, 0, 0, 0, 0, 0, 2, 3] : List Int) : List Int)).bind fun y104 => (if 0 ≤ a0 then (if a0 < (y101.length : Int) then (if a0 < (y104.length : Int) then (some (rdOf ByteArray.empty y101 a0, rd y104 a0)) else (none)) else (none)) else (none)))
set_option maxHeartbeats 8000000 in
set_option maxRecDepth 100000 in
theorem spec_l7Word.calls (a0 : Int) (r1 : ByteArray) (r2 : Int) (w : World) (h : spec_l7Word.f a0 = some (r1, r2)) :
  Calls Tryz.prog 96 #[.int .i64 a0] w fun e w' => e = .returned (.tuple #[.string r1, .int .i64 r2]) ∧ Below w.heap.size w w' := by
 have HB := yac (Below.refl w.heap.size w); have H : ((some (([(⟨#[]⟩ : ByteArray), (⟨#[99, 114, 111, 112]⟩ : ByteArray), (⟨#[102, 108, 105, 112, 120]⟩ : ByteArray), (⟨#[102, 108, 105, 112, 121]⟩ : ByteArray), (⟨#[116, 117, 114, 110]⟩ : ByteArray), (⟨#[103, 114, 97, 121]⟩ : ByteArray), (⟨#[98, 108, 117, 114]⟩ : ByteArray), (⟨#[115, 105, 122, 101]⟩ : ByteArray), (⟨#[102, 108, 97, 116]⟩ : ByteArray)] : List ByteArray) : List ByteArray)).bind fun y101 => ((some (([0, 4, 0, 0, 0, 0, 0, 2, 3] : List Int) : List Int)).bind fun y104 => (if 0 ≤ a0 then (if a0 < (y101.length : Int) then (if a0 < (y104.length : Int) then (some (rdOf ByteArray.empty y101 a0, rd y104 a0)) else (none)) else (none)) else (none)))) = some (r1, r2) := h; clear h; obtain ⟨y101, hy101, H⟩ := bindY H; (try dsimp only at H); have Ny101 := yac hy101; clear hy101; obtain ⟨y104, hy104, H⟩ := bindY H; (try dsimp only at H); have Ny104 := yac hy104; clear hy104
 by_cases c2 : 0 ≤ a0
 rotate_left
 ·
  rw [if_neg c2] at H
  exact absurd H (by simp)
 rw [if_pos c2] at H
 replace c2 := decide_eq_true c2
 by_cases c3 : a0 < (y101.length : Int)
 ·
  rw [if_pos c3] at H
  replace c3 := decide_eq_true c3
  by_cases c4 : a0 < (y104.length : Int)
  ·
   rw [if_pos c4] at H
   replace c4 := decide_eq_true c4
   simp only [Option.some.injEq, Prod.mk.injEq] at H
   obtain ⟨rfl, rfl⟩ := H
   go_enter Tryz.func96, Tryz.ntmps96
   go_wp2_with (first | ((with_reducible refine gd_ 6 rfl ?_); refine Kd.R_lit yab _ 9 ?hg (N := 6) ?hd (xs := ([(⟨#[]⟩ : ByteArray), (⟨#[99, 114, 111, 112]⟩ : ByteArray), (⟨#[102, 108, 105, 112, 120]⟩ : ByteArray), (⟨#[102, 108, 105, 112, 121]⟩ : ByteArray), (⟨#[116, 117, 114, 110]⟩ : ByteArray), (⟨#[103, 114, 97, 121]⟩ : ByteArray), (⟨#[98, 108, 117, 114]⟩ : ByteArray), (⟨#[115, 105, 122, 101]⟩ : ByteArray), (⟨#[102, 108, 97, 116]⟩ : ByteArray)] : List ByteArray)) (inner := [.string (⟨#[]⟩ : ByteArray), .string (⟨#[99, 114, 111, 112]⟩ : ByteArray), .string (⟨#[102, 108, 105, 112, 120]⟩ : ByteArray), .string (⟨#[102, 108, 105, 112, 121]⟩ : ByteArray), .string (⟨#[116, 117, 114, 110]⟩ : ByteArray), .string (⟨#[103, 114, 97, 121]⟩ : ByteArray), .string (⟨#[98, 108, 117, 114]⟩ : ByteArray), .string (⟨#[115, 105, 122, 101]⟩ : ByteArray), .string (⟨#[102, 108, 97, 116]⟩ : ByteArray)]) (ok := fun _ => True) (okp := fun _ => True) ?hr ?hp (fun _ hk => hk) trivial (Below.refl _ _) (Nat.le_refl _) (by simp) ?_; (case hd => rfl); (case hg => rfl); (case hr => first | (go_simp; done) | (go_simp; rfl)); (case hp => exact (yaa (show Kd.M yab _ _ _ (⟨#[]⟩ : ByteArray) [.string (⟨#[]⟩ : ByteArray)] from rfl) (yaa (show Kd.M yab _ _ _ (⟨#[99, 114, 111, 112]⟩ : ByteArray) [.string (⟨#[99, 114, 111, 112]⟩ : ByteArray)] from rfl) (yaa (show Kd.M yab _ _ _ (⟨#[102, 108, 105, 112, 120]⟩ : ByteArray) [.string (⟨#[102, 108, 105, 112, 120]⟩ : ByteArray)] from rfl) (yaa (show Kd.M yab _ _ _ (⟨#[102, 108, 105, 112, 121]⟩ : ByteArray) [.string (⟨#[102, 108, 105, 112, 121]⟩ : ByteArray)] from rfl) (yaa (show Kd.M yab _ _ _ (⟨#[116, 117, 114, 110]⟩ : ByteArray) [.string (⟨#[116, 117, 114, 110]⟩ : ByteArray)] from rfl) (yaa (show Kd.M yab _ _ _ (⟨#[103, 114, 97, 121]⟩ : ByteArray) [.string (⟨#[103, 114, 97, 121]⟩ : ByteArray)] from rfl) (yaa (show Kd.M yab _ _ _ (⟨#[98, 108, 117, 114]⟩ : ByteArray) [.string (⟨#[98, 108, 117, 114]⟩ : ByteArray)] from rfl) (yaa (show Kd.M yab _ _ _ (⟨#[115, 105, 122, 101]⟩ : ByteArray) [.string (⟨#[115, 105, 122, 101]⟩ : ByteArray)] from rfl) (yaa (show Kd.M yab _ _ _ (⟨#[102, 108, 97, 116]⟩ : ByteArray) [.string (⟨#[102, 108, 97, 116]⟩ : ByteArray)] from rfl) (Reps.none _ _))))))))))); intro a8 w5 ho6 hb hg_ hnew_; clear hg_ hnew_; (first | rw [← Ny101.out] at ho6 | (simp only [Int.reduceToNat] at ho6; rw [← Ny101.out] at ho6)); have a1 := yac (Kd.R_lower ho6 (below_size (upH HB.out))); replace HB := yac (below_step (upH HB.out) hb); clear hb ho6) | ((with_reducible refine gd_ 7 rfl ?_); refine Kd.R_lit (Kd.int .i64) _ 3 ?hg (N := 7) ?hd (xs := ([0, 4, 0, 0, 0, 0, 0, 2, 3] : List Int)) (inner := [.int .i64 0, .int .i64 4, .int .i64 0, .int .i64 0, .int .i64 0, .int .i64 0, .int .i64 0, .int .i64 2, .int .i64 3]) (ok := fun _ => True) (okp := fun _ => True) ?hr ?hp (fun _ hk => hk) trivial (Below.refl _ _) (Nat.le_refl _) (by simp) ?_; (case hd => rfl); (case hg => rfl); (case hr => first | (go_simp; done) | (go_simp; rfl)); (case hp => exact (yaa (show Kd.M (Kd.int .i64) _ _ _ 0 [.int .i64 0] from rfl) (yaa (show Kd.M (Kd.int .i64) _ _ _ 4 [.int .i64 4] from rfl) (yaa (show Kd.M (Kd.int .i64) _ _ _ 0 [.int .i64 0] from rfl) (yaa (show Kd.M (Kd.int .i64) _ _ _ 0 [.int .i64 0] from rfl) (yaa (show Kd.M (Kd.int .i64) _ _ _ 0 [.int .i64 0] from rfl) (yaa (show Kd.M (Kd.int .i64) _ _ _ 0 [.int .i64 0] from rfl) (yaa (show Kd.M (Kd.int .i64) _ _ _ 0 [.int .i64 0] from rfl) (yaa (show Kd.M (Kd.int .i64) _ _ _ 2 [.int .i64 2] from rfl) (yaa (show Kd.M (Kd.int .i64) _ _ _ 3 [.int .i64 3] from rfl) (Reps.none _ _))))))))))); intro a9 w7 ho8 hb hg_ hnew_; clear hg_ hnew_; (first | rw [← Ny104.out] at ho8 | (simp only [Int.reduceToNat] at ho8; rw [← Ny104.out] at ho8)); replace a1 := yac (Kd.R_below (upR a1.out) hb); have a2 := yac (Kd.R_lower ho8 (below_size (upH HB.out))); replace HB := yac (below_step (upH HB.out) hb); clear hb ho8; obtain ⟨Ao9, co9, eo9⟩ := Kd.R_slice a1.out; subst eo9; have p107 : 0 ≤ (a0 : Int) := of_decide_eq_true (by assumption); have q107 : a0 < (y101.length : Int) := of_decide_eq_true (by assumption); obtain ⟨ad107, a5, a3⟩ := Kd.at_string (Kd.R_reads' a1.out).2.2 a0 p107 q107; cases a5; replace p107 := eq_true p107; replace q107 := eq_true q107; obtain ⟨b0, b1, a6⟩ := Kd.R_slice a2.out; subst a6; have p108 : 0 ≤ (a0 : Int) := of_decide_eq_true (by assumption); have q108 : a0 < (y104.length : Int) := of_decide_eq_true (by assumption); obtain ⟨ad108, a7, a4⟩ := Kd.at_int (Kd.R_reads' a2.out).2.2 a0 p108 q108; cases a7; replace p108 := eq_true p108; replace q108 := eq_true q108))
   repeat (go_quiet (first | ((with_reducible refine gd_ 6 rfl ?_); refine Kd.R_lit yab _ 9 ?hg (N := 6) ?hd (xs := ([(⟨#[]⟩ : ByteArray), (⟨#[99, 114, 111, 112]⟩ : ByteArray), (⟨#[102, 108, 105, 112, 120]⟩ : ByteArray), (⟨#[102, 108, 105, 112, 121]⟩ : ByteArray), (⟨#[116, 117, 114, 110]⟩ : ByteArray), (⟨#[103, 114, 97, 121]⟩ : ByteArray), (⟨#[98, 108, 117, 114]⟩ : ByteArray), (⟨#[115, 105, 122, 101]⟩ : ByteArray), (⟨#[102, 108, 97, 116]⟩ : ByteArray)] : List ByteArray)) (inner := [.string (⟨#[]⟩ : ByteArray), .string (⟨#[99, 114, 111, 112]⟩ : ByteArray), .string (⟨#[102, 108, 105, 112, 120]⟩ : ByteArray), .string (⟨#[102, 108, 105, 112, 121]⟩ : ByteArray), .string (⟨#[116, 117, 114, 110]⟩ : ByteArray), .string (⟨#[103, 114, 97, 121]⟩ : ByteArray), .string (⟨#[98, 108, 117, 114]⟩ : ByteArray), .string (⟨#[115, 105, 122, 101]⟩ : ByteArray), .string (⟨#[102, 108, 97, 116]⟩ : ByteArray)]) (ok := fun _ => True) (okp := fun _ => True) ?hr ?hp (fun _ hk => hk) trivial (Below.refl _ _) (Nat.le_refl _) (by simp) ?_; (case hd => rfl); (case hg => rfl); (case hr => first | (go_simp; done) | (go_simp; rfl)); (case hp => exact (yaa (show Kd.M yab _ _ _ (⟨#[]⟩ : ByteArray) [.string (⟨#[]⟩ : ByteArray)] from rfl) (yaa (show Kd.M yab _ _ _ (⟨#[99, 114, 111, 112]⟩ : ByteArray) [.string (⟨#[99, 114, 111, 112]⟩ : ByteArray)] from rfl) (yaa (show Kd.M yab _ _ _ (⟨#[102, 108, 105, 112, 120]⟩ : ByteArray) [.string (⟨#[102, 108, 105, 112, 120]⟩ : ByteArray)] from rfl) (yaa (show Kd.M yab _ _ _ (⟨#[102, 108, 105, 112, 121]⟩ : ByteArray) [.string (⟨#[102, 108, 105, 112, 121]⟩ : ByteArray)] from rfl) (yaa (show Kd.M yab _ _ _ (⟨#[116, 117, 114, 110]⟩ : ByteArray) [.string (⟨#[116, 117, 114, 110]⟩ : ByteArray)] from rfl) (yaa (show Kd.M yab _ _ _ (⟨#[103, 114, 97, 121]⟩ : ByteArray) [.string (⟨#[103, 114, 97, 121]⟩ : ByteArray)] from rfl) (yaa (show Kd.M yab _ _ _ (⟨#[98, 108, 117, 114]⟩ : ByteArray) [.string (⟨#[98, 108, 117, 114]⟩ : ByteArray)] from rfl) (yaa (show Kd.M yab _ _ _ (⟨#[115, 105, 122, 101]⟩ : ByteArray) [.string (⟨#[115, 105, 122, 101]⟩ : ByteArray)] from rfl) (yaa (show Kd.M yab _ _ _ (⟨#[102, 108, 97, 116]⟩ : ByteArray) [.string (⟨#[102, 108, 97, 116]⟩ : ByteArray)] from rfl) (Reps.none _ _))))))))))); intro a8 w5 ho6 hb hg_ hnew_; clear hg_ hnew_; (first | rw [← Ny101.out] at ho6 | (simp only [Int.reduceToNat] at ho6; rw [← Ny101.out] at ho6)); have a1 := yac (Kd.R_lower ho6 (below_size (upH HB.out))); replace HB := yac (below_step (upH HB.out) hb); clear hb ho6) | ((with_reducible refine gd_ 7 rfl ?_); refine Kd.R_lit (Kd.int .i64) _ 3 ?hg (N := 7) ?hd (xs := ([0, 4, 0, 0, 0, 0, 0, 2, 3] : List Int)) (inner := [.int .i64 0, .int .i64 4, .int .i64 0, .int .i64 0, .int .i64 0, .int .i64 0, .int .i64 0, .int .i64 2, .int .i64 3]) (ok := fun _ => True) (okp := fun _ => True) ?hr ?hp (fun _ hk => hk) trivial (Below.refl _ _) (Nat.le_refl _) (by simp) ?_; (case hd => rfl); (case hg => rfl); (case hr => first | (go_simp; done) | (go_simp; rfl)); (case hp => exact (yaa (show Kd.M (Kd.int .i64) _ _ _ 0 [.int .i64 0] from rfl) (yaa (show Kd.M (Kd.int .i64) _ _ _ 4 [.int .i64 4] from rfl) (yaa (show Kd.M (Kd.int .i64) _ _ _ 0 [.int .i64 0] from rfl) (yaa (show Kd.M (Kd.int .i64) _ _ _ 0 [.int .i64 0] from rfl) (yaa (show Kd.M (Kd.int .i64) _ _ _ 0 [.int .i64 0] from rfl) (yaa (show Kd.M (Kd.int .i64) _ _ _ 0 [.int .i64 0] from rfl) (yaa (show Kd.M (Kd.int .i64) _ _ _ 0 [.int .i64 0] from rfl) (yaa (show Kd.M (Kd.int .i64) _ _ _ 2 [.int .i64 2] from rfl) (yaa (show Kd.M (Kd.int .i64) _ _ _ 3 [.int .i64 3] from rfl) (Reps.none _ _))))))))))); intro a9 w7 ho8 hb hg_ hnew_; clear hg_ hnew_; (first | rw [← Ny104.out] at ho8 | (simp only [Int.reduceToNat] at ho8; rw [← Ny104.out] at ho8)); replace a1 := yac (Kd.R_below (upR a1.out) hb); have a2 := yac (Kd.R_lower ho8 (below_size (upH HB.out))); replace HB := yac (below_step (upH HB.out) hb); clear hb ho8; obtain ⟨Ao9, co9, eo9⟩ := Kd.R_slice a1.out; subst eo9; have p107 : 0 ≤ (a0 : Int) := of_decide_eq_true (by assumption); have q107 : a0 < (y101.length : Int) := of_decide_eq_true (by assumption); obtain ⟨ad107, a5, a3⟩ := Kd.at_string (Kd.R_reads' a1.out).2.2 a0 p107 q107; cases a5; replace p107 := eq_true p107; replace q107 := eq_true q107; obtain ⟨b0, b1, a6⟩ := Kd.R_slice a2.out; subst a6; have p108 : 0 ≤ (a0 : Int) := of_decide_eq_true (by assumption); have q108 : a0 < (y104.length : Int) := of_decide_eq_true (by assumption); obtain ⟨ad108, a7, a4⟩ := Kd.at_int (Kd.R_reads' a2.out).2.2 a0 p108 q108; cases a7; replace p108 := eq_true p108; replace q108 := eq_true q108)); try go_wp2_with (first | ((with_reducible refine gd_ 6 rfl ?_); refine Kd.R_lit yab _ 9 ?hg (N := 6) ?hd (xs := ([(⟨#[]⟩ : ByteArray), (⟨#[99, 114, 111, 112]⟩ : ByteArray), (⟨#[102, 108, 105, 112, 120]⟩ : ByteArray), (⟨#[102, 108, 105, 112, 121]⟩ : ByteArray), (⟨#[116, 117, 114, 110]⟩ : ByteArray), (⟨#[103, 114, 97, 121]⟩ : ByteArray), (⟨#[98, 108, 117, 114]⟩ : ByteArray), (⟨#[115, 105, 122, 101]⟩ : ByteArray), (⟨#[102, 108, 97, 116]⟩ : ByteArray)] : List ByteArray)) (inner := [.string (⟨#[]⟩ : ByteArray), .string (⟨#[99, 114, 111, 112]⟩ : ByteArray), .string (⟨#[102, 108, 105, 112, 120]⟩ : ByteArray), .string (⟨#[102, 108, 105, 112, 121]⟩ : ByteArray), .string (⟨#[116, 117, 114, 110]⟩ : ByteArray), .string (⟨#[103, 114, 97, 121]⟩ : ByteArray), .string (⟨#[98, 108, 117, 114]⟩ : ByteArray), .string (⟨#[115, 105, 122, 101]⟩ : ByteArray), .string (⟨#[102, 108, 97, 116]⟩ : ByteArray)]) (ok := fun _ => True) (okp := fun _ => True) ?hr ?hp (fun _ hk => hk) trivial (Below.refl _ _) (Nat.le_refl _) (by simp) ?_; (case hd => rfl); (case hg => rfl); (case hr => first | (go_simp; done) | (go_simp; rfl)); (case hp => exact (yaa (show Kd.M yab _ _ _ (⟨#[]⟩ : ByteArray) [.string (⟨#[]⟩ : ByteArray)] from rfl) (yaa (show Kd.M yab _ _ _ (⟨#[99, 114, 111, 112]⟩ : ByteArray) [.string (⟨#[99, 114, 111, 112]⟩ : ByteArray)] from rfl) (yaa (show Kd.M yab _ _ _ (⟨#[102, 108, 105, 112, 120]⟩ : ByteArray) [.string (⟨#[102, 108, 105, 112, 120]⟩ : ByteArray)] from rfl) (yaa (show Kd.M yab _ _ _ (⟨#[102, 108, 105, 112, 121]⟩ : ByteArray) [.string (⟨#[102, 108, 105, 112, 121]⟩ : ByteArray)] from rfl) (yaa (show Kd.M yab _ _ _ (⟨#[116, 117, 114, 110]⟩ : ByteArray) [.string (⟨#[116, 117, 114, 110]⟩ : ByteArray)] from rfl) (yaa (show Kd.M yab _ _ _ (⟨#[103, 114, 97, 121]⟩ : ByteArray) [.string (⟨#[103, 114, 97, 121]⟩ : ByteArray)] from rfl) (yaa (show Kd.M yab _ _ _ (⟨#[98, 108, 117, 114]⟩ : ByteArray) [.string (⟨#[98, 108, 117, 114]⟩ : ByteArray)] from rfl) (yaa (show Kd.M yab _ _ _ (⟨#[115, 105, 122, 101]⟩ : ByteArray) [.string (⟨#[115, 105, 122, 101]⟩ : ByteArray)] from rfl) (yaa (show Kd.M yab _ _ _ (⟨#[102, 108, 97, 116]⟩ : ByteArray) [.string (⟨#[102, 108, 97, 116]⟩ : ByteArray)] from rfl) (Reps.none _ _))))))))))); intro a8 w5 ho6 hb hg_ hnew_; clear hg_ hnew_; (first | rw [← Ny101.out] at ho6 | (simp only [Int.reduceToNat] at ho6; rw [← Ny101.out] at ho6)); have a1 := yac (Kd.R_lower ho6 (below_size (upH HB.out))); replace HB := yac (below_step (upH HB.out) hb); clear hb ho6) | ((with_reducible refine gd_ 7 rfl ?_); refine Kd.R_lit (Kd.int .i64) _ 3 ?hg (N := 7) ?hd (xs := ([0, 4, 0, 0, 0, 0, 0, 2, 3] : List Int)) (inner := [.int .i64 0, .int .i64 4, .int .i64 0, .int .i64 0, .int .i64 0, .int .i64 0, .int .i64 0, .int .i64 2, .int .i64 3]) (ok := fun _ => True) (okp := fun _ => True) ?hr ?hp (fun _ hk => hk) trivial (Below.refl _ _) (Nat.le_refl _) (by simp) ?_; (case hd => rfl); (case hg => rfl); (case hr => first | (go_simp; done) | (go_simp; rfl)); (case hp => exact (yaa (show Kd.M (Kd.int .i64) _ _ _ 0 [.int .i64 0] from rfl) (yaa (show Kd.M (Kd.int .i64) _ _ _ 4 [.int .i64 4] from rfl) (yaa (show Kd.M (Kd.int .i64) _ _ _ 0 [.int .i64 0] from rfl) (yaa (show Kd.M (Kd.int .i64) _ _ _ 0 [.int .i64 0] from rfl) (yaa (show Kd.M (Kd.int .i64) _ _ _ 0 [.int .i64 0] from rfl) (yaa (show Kd.M (Kd.int .i64) _ _ _ 0 [.int .i64 0] from rfl) (yaa (show Kd.M (Kd.int .i64) _ _ _ 0 [.int .i64 0] from rfl) (yaa (show Kd.M (Kd.int .i64) _ _ _ 2 [.int .i64 2] from rfl) (yaa (show Kd.M (Kd.int .i64) _ _ _ 3 [.int .i64 3] from rfl) (Reps.none _ _))))))))))); intro a9 w7 ho8 hb hg_ hnew_; clear hg_ hnew_; (first | rw [← Ny104.out] at ho8 | (simp only [Int.reduceToNat] at ho8; rw [← Ny104.out] at ho8)); replace a1 := yac (Kd.R_below (upR a1.out) hb); have a2 := yac (Kd.R_lower ho8 (below_size (upH HB.out))); replace HB := yac (below_step (upH HB.out) hb); clear hb ho8; obtain ⟨Ao9, co9, eo9⟩ := Kd.R_slice a1.out; subst eo9; have p107 : 0 ≤ (a0 : Int) := of_decide_eq_true (by assumption); have q107 : a0 < (y101.length : Int) := of_decide_eq_true (by assumption); obtain ⟨ad107, a5, a3⟩ := Kd.at_string (Kd.R_reads' a1.out).2.2 a0 p107 q107; cases a5; replace p107 := eq_true p107; replace q107 := eq_true q107; obtain ⟨b0, b1, a6⟩ := Kd.R_slice a2.out; subst a6; have p108 : 0 ≤ (a0 : Int) := of_decide_eq_true (by assumption); have q108 : a0 < (y104.length : Int) := of_decide_eq_true (by assumption); obtain ⟨ad108, a7, a4⟩ := Kd.at_int (Kd.R_reads' a2.out).2.2 a0 p108 q108; cases a7; replace p108 := eq_true p108; replace q108 := eq_true q108)))
   go_ret2
   exact ⟨by first | rfl | (simp [*, errW_none, errW_some] <;> rfl), upH HB.out⟩
  rw [if_neg c4] at H
  exact absurd H (by simp)
 rw [if_neg c3] at H
 exact absurd H (by simp)
end
section
open Go.Proofs.YtmplnpjdbfedbaaGreatDoorW.PrintWords.Aside0 renaming mk → yaa
open Go.Proofs.YtmplnpjdbfedbaaGreatDoorW.PrintWords renaming pw_below_drewN → yab
def spec_OpText.l0 : Nat → ByteArray → Int → List Int → Int → Option (ByteArray)
 | 0, _, _, _, _ => none
 | k + 1, x3, x4, x5, x6 => if x6 < x4 then (if x3.size + 1 ≤ 9223372036854775807 then (if 0 ≤ x6 then (if x6 < (x5.length : Int) then ((spec_l7Plain.f k (rd x5 x6)).bind fun t109 => (if (x3 ++ (⟨#[46]⟩ : ByteArray)).size + t109.size ≤ 9223372036854775807 then (spec_OpText.l0 k ((x3 ++ (⟨#[46]⟩ : ByteArray)) ++ t109) x4 x5 (wrap64 (x6 + 1))) else (none))) else (none)) else (none)) else (none)) else (some x3)
def spec_OpText.f (k : Nat) (a0_0 : Int) (a0_1 : Int) (a0_2 : Int) (a0_3 : Int) (a0_4 : Int) : Option (ByteArray) := (spec_OpOk.f a0_0 a0_1 a0_2 a0_3 a0_4).bind fun t102 => (if t102 = true then ((spec_l7Word.f a0_0).bind fun bt103 => (spec_OpText.l0 k bt103.1 bt103.2 (([a0_1, a0_2, a0_3, a0_4] : List Int)) 0)) else (some (⟨#[]⟩ : ByteArray)))
set_option maxHeartbeats 8000000 in
set_option maxRecDepth 100000 in
theorem spec_OpText.calls (k : Nat) (a0_0 : Int) (a0_1 : Int) (a0_2 : Int) (a0_3 : Int) (a0_4 : Int) (r : ByteArray) (w : World) (h : spec_OpText.f k a0_0 a0_1 a0_2 a0_3 a0_4 = some r) :
  Calls Tryz.prog 82 #[.agg #[.int .i64 a0_0, .int .i64 a0_1, .int .i64 a0_2, .int .i64 a0_3, .int .i64 a0_4]] w fun e w' => e = .returned (.string r) ∧ Below w.heap.size w w' := by
 have hu65 := Tryz.underlying65; have HB := yaa (Below.refl w.heap.size w); have H : ((spec_OpOk.f a0_0 a0_1 a0_2 a0_3 a0_4).bind fun d0 => (if d0 = true then ((spec_l7Word.f a0_0).bind fun c6 => (spec_OpText.l0 k c6.1 c6.2 (([a0_1, a0_2, a0_3, a0_4] : List Int)) 0)) else (some (⟨#[]⟩ : ByteArray)))) = some r := h; clear h; obtain ⟨d0, A2, H⟩ := bindA H; (try dsimp only at H)
 by_cases c3 : d0 = true
 rotate_left
 ·
  replace c3 := Bool.eq_false_iff.mpr c3
  subst c3
  rw [if_neg (show ¬ (false = true) by decide)] at H
  obtain rfl := Option.some.inj H
  go_enter Tryz.func82, Tryz.ntmps82
  go_wp2_with (first | ((with_reducible refine gd_ 1 rfl ?_); refine bx_ 1 rfl #[.int .i64 a0_0, .int .i64 a0_1, .int .i64 a0_2, .int .i64 a0_3, .int .i64 a0_4] 65 ?_; intro a8 hg w21 hbox hb; have a5 := yaa (hbox); have b1 := yaa ((by rw [hg]; exact (below_size (upH HB.out)) : w.heap.size ≤ a8)); replace HB := yaa (below_step (upH HB.out) hb); have f4 := b1; clear hb hbox hg; obtain ⟨f7, f8, f9, g0, g1⟩ := cc5_ a5.out; obtain ⟨g2, g3, g4, g5⟩ := cf4_ a5.out; have g6 := blk_frozen a5.out 4) | ((with_reducible refine gc_ 81 rfl ?_); refine gl_ (some 8) rfl Tryz.func81 #[.agg #[.int .i64 a0_0, .int .i64 a0_1, .int .i64 a0_2, .int .i64 a0_3, .int .i64 a0_4]] ?_; (with_reducible refine (spec_OpOk.calls a0_0 a0_1 a0_2 a0_3 a0_4 false _ A2.out).mono ?_); rintro e w23 ⟨rfl, hb⟩; refine ⟨_, rfl, ?_⟩; replace a5 := yaa (blk_below (upB a5.out) hb); replace HB := yaa (below_step (by repeat (with_reducible first | exact HB.out | apply below_alloc | apply yab | apply below_drew1 | refine below_set ?_ (Aside0.out ‹_›))) hb); (try clear hb)))
  go_ret
  exact ⟨by first | rfl | (simp [*, errW_none, errW_some] <;> rfl), by repeat (with_reducible first | exact HB.out | apply below_alloc | apply yab | apply below_drew1 | refine below_set ?_ (Aside0.out ‹_›))⟩
 subst c3
 rw [if_pos rfl] at H
 obtain ⟨⟨d1, a9⟩, A4, H⟩ := bindA H; (try dsimp only at H); obtain ⟨y105, hy105⟩ : ∃ y_ : List Int, y_ = (([a0_1, a0_2, a0_3, a0_4] : List Int)) := ⟨_, rfl⟩
 replace H : (spec_OpText.l0 k d1 a9 y105 0) = some r := by first | (rw [hy105]; with_reducible exact H) | (have H2_ := (Option.bind_some _ _).symm.trans H; rw [hy105]; with_reducible exact H2_) | (have H2_ := (Option.bind_some _ _).symm.trans H; with_reducible exact H2_) | with_reducible exact H | (rw [hy105]; exact H) | exact H
 have Ny105 := yaa hy105; clear hy105; have H' := yaa H; clear H
 go_enter Tryz.func82, Tryz.ntmps82
 go_wp2_with (first | ((with_reducible refine gd_ 1 rfl ?_); refine bx_ 1 rfl #[.int .i64 a0_0, .int .i64 a0_1, .int .i64 a0_2, .int .i64 a0_3, .int .i64 a0_4] 65 ?_; intro a8 hg w5 hbox hb; have a5 := yaa (hbox); have b1 := yaa ((by rw [hg]; exact (below_size (upH HB.out)) : w.heap.size ≤ a8)); replace HB := yaa (below_step (upH HB.out) hb); have f4 := b1; clear hb hbox hg; obtain ⟨d2, d3, d4, d5, d6⟩ := cc5_ a5.out; obtain ⟨d8, d9, e0, e1⟩ := cf4_ a5.out; have e3 := blk_frozen a5.out 4) | ((with_reducible refine gc_ 81 rfl ?_); refine gl_ (some 8) rfl Tryz.func81 #[.agg #[.int .i64 a0_0, .int .i64 a0_1, .int .i64 a0_2, .int .i64 a0_3, .int .i64 a0_4]] ?_; (with_reducible refine (spec_OpOk.calls a0_0 a0_1 a0_2 a0_3 a0_4 true _ A2.out).mono ?_); rintro e w7 ⟨rfl, hb⟩; refine ⟨_, rfl, ?_⟩; replace a5 := yaa (blk_below (upB a5.out) hb); replace HB := yaa (below_step (by repeat (with_reducible first | exact HB.out | apply below_alloc | apply yab | apply below_drew1 | refine below_set ?_ (Aside0.out ‹_›))) hb); (try clear hb); obtain ⟨e4, e5, e6, e7, e8⟩ := cc5_ a5.out; obtain ⟨e9, f0, f1, f2⟩ := cf4_ a5.out; have f3 := blk_frozen a5.out 4) | ((with_reducible refine gc_ 96 rfl ?_); refine gl_ (some 13) rfl Tryz.func96 #[.int .i64 a0_0] ?_; (with_reducible refine (spec_l7Word.calls a0_0 d1 a9 _ A4.out).mono ?_); rintro e w9 ⟨rfl, hb⟩; refine ⟨_, rfl, ?_⟩; replace a5 := yaa (blk_below (upB a5.out) hb); replace HB := yaa (below_step (by repeat (with_reducible first | exact HB.out | apply below_alloc | apply yab | apply below_drew1 | refine below_set ?_ (Aside0.out ‹_›))) hb); (try clear hb); obtain ⟨b5, b6, b7, b8, b9⟩ := cc5_ a5.out; obtain ⟨c0, c1, c2, c4⟩ := cf4_ a5.out; have c5 := blk_frozen a5.out 4) | ((with_reducible refine gd_ 24 rfl ?_); refine Kd.R_lit (Kd.int .i64) _ 3 ?hg (N := 24) ?hd (xs := ([a0_1, a0_2, a0_3, a0_4] : List Int)) (inner := [.int .i64 a0_1, .int .i64 a0_2, .int .i64 a0_3, .int .i64 a0_4]) (ok := fun _ => True) (okp := fun _ => True) ?hr ?hp (fun _ hk => hk) trivial (Below.refl _ _) (Nat.le_refl _) (by simp) ?_; (case hd => rfl); (case hg => rfl); (case hr => first | (go_simp; done) | (go_simp; rfl)); (case hp => exact (Reps.one (show Kd.M (Kd.int .i64) _ _ _ a0_1 [.int .i64 a0_1] from rfl) (Reps.one (show Kd.M (Kd.int .i64) _ _ _ a0_2 [.int .i64 a0_2] from rfl) (Reps.one (show Kd.M (Kd.int .i64) _ _ _ a0_3 [.int .i64 a0_3] from rfl) (Reps.one (show Kd.M (Kd.int .i64) _ _ _ a0_4 [.int .i64 a0_4] from rfl) (Reps.none _ _)))))); intro g7 w11 b2 hb hg_ hnew_; clear hg_ hnew_; (first | rw [← Ny105.out] at b2 | (simp only [Int.reduceToNat] at b2; rw [← Ny105.out] at b2)); have c7 := yaa (Kd.R_lower b2 (below_size (by repeat (with_reducible first | exact HB.out | apply below_alloc | apply yab | apply below_drew1 | refine below_set ?_ (Aside0.out ‹_›))))); replace a5 := yaa (blk_below (upB a5.out) hb); replace HB := yaa (below_step (by repeat (with_reducible first | exact HB.out | apply below_alloc | apply yab | apply below_drew1 | refine below_set ?_ (Aside0.out ‹_›))) hb); clear hb b2))
 (try simp only [Act.put, List.setIfInBounds_toArray, List.set_cons_zero, List.set_cons_succ])
 go_loopg [3, 6] k (fun kq v3 v6 w' => ∃ (a7 : ByteArray) (a6 : Int), v3 = .string a7 ∧ v6 = .int .i64 a6 ∧ Aside0 (spec_OpText.l0 kq a7 a9 y105 a6 = some r) ∧ Aside0 (kq ≤ k) ∧ Aside0 (Kd.R (Kd.int .i64) 3 w' w.heap.size (fun _ => True) g7 y105) ∧ Aside0 (w'.heap[a8]? = some (.cells #[.int .i64 a0_0, .int .i64 a0_1, .int .i64 a0_2, .int .i64 a0_3, .int .i64 a0_4] 65 (0, 0))) ∧ Aside0 (Below w.heap.size w w'))
 case atStart => exact ⟨(d1), (0), (by first | rfl | (simp; done) | (simp [*]; done)), (by first | rfl | (simp; done) | (simp [*]; done)), H', ⟨Nat.le_refl _⟩, ⟨by first | exact c7.out | exact upR c7.out⟩, ⟨by exact upB a5.out⟩, ⟨by repeat (with_reducible first | exact HB.out | apply below_alloc | apply yab | apply below_drew1 | refine below_set ?_ (Aside0.out ‹_›))⟩⟩
 case round =>
  clear H'; (try clear p2); (try clear c3); (try clear c8); (try clear c9); (try clear b5); (try clear b6); (try clear b7); (try clear b8); (try clear b9); (try clear d2); (try clear d3); (try clear d4); (try clear d5); (try clear d6); (try clear e4); (try clear e5); (try clear e6); (try clear e7); (try clear e8); (try clear c0); (try clear c1); (try clear c2); (try clear c4); (try clear c5); (try clear d8); (try clear d9); (try clear e0); (try clear e1); (try clear e3); (try clear e9); (try clear f0); (try clear f1); (try clear f2); (try clear f3); obtain ⟨a7, a6, rfl, rfl, HA, HK1, b0, a5, HB⟩ := hrel
  cases gk with
  | zero => exact absurd HA.out (by simp [spec_OpText.l0])
  | succ k1 =>
   have H := HA.out; clear HA
   simp only [spec_OpText.l0] at H
   by_cases c13 : a6 < a9
   rotate_left
   ·
    rw [if_neg c13] at H
    have f5 : decide (a6 < a9) = false := decide_eq_false c13; clear c13; obtain rfl := Option.some.inj H
    go_wp2
    go_ret
    exact ⟨by first | rfl | (simp [*, errW_none, errW_some] <;> rfl), by repeat (with_reducible first | exact HB.out | apply below_alloc | apply yab | apply below_drew1 | refine below_set ?_ (Aside0.out ‹_›))⟩
   rw [if_pos c13] at H
   have f5 : decide (a6 < a9) = true := decide_eq_true c13; clear c13
   by_cases c14 : a7.size + 1 ≤ 9223372036854775807
   rotate_left
   ·
    rw [if_neg c14] at H
    exact absurd H (by simp)
   rw [if_pos c14] at H
   have h0 := eq_true c14; have h1 : decide (a7.size + 1 ≤ 9223372036854775807) = true := decide_eq_true c14
   try have h2 : (9223372036854775807 < a7.size + 1) = False := eq_false (Nat.not_lt.2 c14)
   by_cases c15 : 0 ≤ a6
   rotate_left
   ·
    rw [if_neg c15] at H
    exact absurd H (by simp)
   rw [if_pos c15] at H
   replace c15 := decide_eq_true c15
   by_cases c16 : a6 < (y105.length : Int)
   ·
    rw [if_pos c16] at H
    replace c16 := decide_eq_true c16; obtain ⟨b3, A17, H⟩ := bindA H; (try dsimp only at H)
    by_cases c18 : (a7 ++ (⟨#[46]⟩ : ByteArray)).size + b3.size ≤ 9223372036854775807
    ·
     rw [if_pos c18] at H
     have h3 := eq_true c18; have h4 : decide ((a7 ++ (⟨#[46]⟩ : ByteArray)).size + b3.size ≤ 9223372036854775807) = true := decide_eq_true c18
     try have h5 : (9223372036854775807 < (a7 ++ (⟨#[46]⟩ : ByteArray)).size + b3.size) = False := eq_false (Nat.not_lt.2 c18)
     try (have b4 := c18; simp only [ByteArray.size_append', ByteArray.size_mk', List.size_toArray, List.length_cons, List.length_nil, Nat.zero_add, Nat.reduceAdd] at b4; replace b4 := eq_false (Nat.not_lt.2 b4))
     have H' := yaa H; clear H; obtain ⟨h6, h7, g8⟩ := Kd.R_slice b0.out; subst g8; have p108 : 0 ≤ (a6 : Int) := of_decide_eq_true (by assumption); have q108 : a6 < (y105.length : Int) := of_decide_eq_true (by assumption); obtain ⟨ad108, g9, f6⟩ := Kd.at_int (Kd.R_reads' b0.out).2.2 a6 p108 q108
     cases g9
     replace p108 := eq_true p108; replace q108 := eq_true q108
     go_wp2_with (first | ((with_reducible refine gc_ 52 rfl ?_); refine gl_ (some 36) rfl Tryz.func52 #[.int .i64 (rd y105 a6)] ?_; (with_reducible refine (spec_l7Plain.calls k1 (rd y105 a6) b3 _ A17.out).mono ?_); rintro e w20 ⟨rfl, hb⟩; refine ⟨_, rfl, ?_⟩; replace b0 := yaa (Kd.R_below (upR b0.out) hb); replace a5 := yaa (blk_below (upB a5.out) hb); replace HB := yaa (below_step (by repeat (with_reducible first | exact HB.out | apply below_alloc | apply yab | apply below_drew1 | refine below_set ?_ (Aside0.out ‹_›))) hb); (try clear hb)))
     go_roundg k1
     case measure => have := HK1.out; omega
     case rel => exact ⟨((a7 ++ (⟨#[46]⟩ : ByteArray)) ++ b3), (wrap64 (a6 + 1)), (by first | rfl | (simp; done) | (simp [*]; done)), (by first | rfl | (simp; done) | (simp [*]; done)), H', ⟨by have := HK1.out; omega⟩, ⟨by first | exact b0.out | exact upR b0.out⟩, ⟨by exact upB a5.out⟩, ⟨by repeat (with_reducible first | exact HB.out | apply below_alloc | apply yab | apply below_drew1 | refine below_set ?_ (Aside0.out ‹_›))⟩⟩
    rw [if_neg c18] at H
    exact absurd H (by simp)
   rw [if_neg c16] at H
   exact absurd H (by simp)
end
section
def spec_l7Ops.l0 : Nat → List (S65) → ByteArray → Int → Option (ByteArray)
 | 0, _, _, _ => none
 | k + 1, x0, x3, x4 => if x4 < (x0.length : Int) then (if x4 > 0 then (if x3.size + 1 ≤ 9223372036854775807 then (if 0 ≤ x4 then ((spec_OpText.f k ((rd_T65 x0 x4).f0) ((rd_T65 x0 x4).f1) ((rd_T65 x0 x4).f2) ((rd_T65 x0 x4).f3) ((rd_T65 x0 x4).f4)).bind fun t102 => (if (x3 ++ (⟨#[44]⟩ : ByteArray)).size + t102.size ≤ 9223372036854775807 then (spec_l7Ops.l0 k x0 ((x3 ++ (⟨#[44]⟩ : ByteArray)) ++ t102) (wrap64 (x4 + 1))) else (none))) else (none)) else (none)) else (if 0 ≤ x4 then ((spec_OpText.f k ((rd_T65 x0 x4).f0) ((rd_T65 x0 x4).f1) ((rd_T65 x0 x4).f2) ((rd_T65 x0 x4).f3) ((rd_T65 x0 x4).f4)).bind fun t104 => (if x3.size + t104.size ≤ 9223372036854775807 then (spec_l7Ops.l0 k x0 (x3 ++ t104) (wrap64 (x4 + 1))) else (none))) else (none))) else (some x3)
def spec_l7Ops.f (k : Nat) (l0 : List (S65)) : Option (ByteArray) := if (l0.length : Int) = 0 then (some (⟨#[45]⟩ : ByteArray)) else (spec_l7Ops.l0 k l0 (⟨#[]⟩ : ByteArray) 0)
set_option maxHeartbeats 8000000 in
set_option maxRecDepth 100000 in
theorem spec_l7Ops.calls (k : Nat) (A0 : Option Addr) (c0 : Nat) (l0 : List (S65)) (r : ByteArray) (w : World) (hr0 : Kd.C k65 w A0 l0.length l0) (hc0 : l0.length ≤ c0) (h : spec_l7Ops.f k l0 = some r) :
  Calls Tryz.prog 51 #[.slice A0 l0.length c0] w fun e w' => e = .returned (.string r) ∧ Below w.heap.size w w' := by
 have hu65 := Tryz.underlying65; have HR0 := Aside0.mk hr0; have HC0 := Aside0.mk hc0; clear hr0 hc0; have HB := Aside0.mk (Below.refl w.heap.size w); have H : (if (l0.length : Int) = 0 then (some (⟨#[45]⟩ : ByteArray)) else (spec_l7Ops.l0 k l0 (⟨#[]⟩ : ByteArray) 0)) = some r := h; clear h
 by_cases c2 : (l0.length : Int) = 0
 ·
  rw [if_pos c2] at H
  have b6 := beq_iff_eq.mpr c2; have b7 := bne_eq_false_iff_eq.mpr c2; clear c2; obtain rfl := Option.some.inj H
  go_enter Tryz.func51, Tryz.ntmps51
  go_wp2
  go_ret
  exact ⟨by first | rfl | (simp [*, errW_none, errW_some] <;> rfl), upH HB.out⟩
 rw [if_neg c2] at H
 have b6 := beq_eq_false_iff_ne.mpr c2; have b7 := bne_iff_ne.mpr c2; have b8 : ¬ (l0 = []) := fun h_ => c2 (by rw [h_]; rfl); have H' := Aside0.mk H; clear H
 go_enter Tryz.func51, Tryz.ntmps51
 go_wp2
 (try simp only [Act.put, List.setIfInBounds_toArray, List.set_cons_zero, List.set_cons_succ])
 go_loopg [3, 4] k (fun kq v3 v4 w' => ∃ (a2 : ByteArray) (a1 : Int), v3 = .string a2 ∧ v4 = .int .i64 a1 ∧ Aside0 (spec_l7Ops.l0 kq l0 a2 a1 = some r) ∧ Aside0 (kq ≤ k) ∧ Aside0 (Below w.heap.size w w'))
 case atStart => exact ⟨((⟨#[]⟩ : ByteArray)), (0), (by first | rfl | (simp; done) | (simp [*]; done)), (by first | rfl | (simp; done) | (simp [*]; done)), H', ⟨Nat.le_refl _⟩, ⟨upH HB.out⟩⟩
 case round =>
  clear H'; (try clear c2); (try clear b6); (try clear b7); (try clear b8); (try clear p2); obtain ⟨a2, a1, rfl, rfl, HA, HK1, HB⟩ := hrel
  cases gk with
  | zero => exact absurd HA.out (by simp [spec_l7Ops.l0])
  | succ k1 =>
   have H := HA.out; clear HA
   simp only [spec_l7Ops.l0] at H
   by_cases c3 : a1 < (l0.length : Int)
   rotate_left
   ·
    rw [if_neg c3] at H
    have b9 : decide (a1 < (l0.length : Int)) = false := decide_eq_false c3; clear c3; obtain rfl := Option.some.inj H
    go_wp2
    go_ret
    exact ⟨by first | rfl | (simp [*, errW_none, errW_some] <;> rfl), upH HB.out⟩
   rw [if_pos c3] at H
   have b9 : decide (a1 < (l0.length : Int)) = true := decide_eq_true c3; clear c3
   by_cases c4 : a1 > 0
   ·
    rw [if_pos c4] at H
    have c1 : decide (0 < a1) = true := decide_eq_true c4; clear c4
    by_cases c5 : a2.size + 1 ≤ 9223372036854775807
    rotate_left
    ·
     rw [if_neg c5] at H
     exact absurd H (by simp)
    rw [if_pos c5] at H
    have d3 := eq_true c5; have d4 : decide (a2.size + 1 ≤ 9223372036854775807) = true := decide_eq_true c5
    try have d5 : (9223372036854775807 < a2.size + 1) = False := eq_false (Nat.not_lt.2 c5)
    by_cases c6 : 0 ≤ a1
    ·
     rw [if_pos c6] at H
     replace c6 := decide_eq_true c6; obtain ⟨b3, A7, H⟩ := bindA H; (try dsimp only at H)
     by_cases c8 : (a2 ++ (⟨#[44]⟩ : ByteArray)).size + b3.size ≤ 9223372036854775807
     ·
      rw [if_pos c8] at H
      have d6 := eq_true c8; have d7 : decide ((a2 ++ (⟨#[44]⟩ : ByteArray)).size + b3.size ≤ 9223372036854775807) = true := decide_eq_true c8
      try have d8 : (9223372036854775807 < (a2 ++ (⟨#[44]⟩ : ByteArray)).size + b3.size) = False := eq_false (Nat.not_lt.2 c8)
      try (have b5 := c8; simp only [ByteArray.size_append', ByteArray.size_mk', List.size_toArray, List.length_cons, List.length_nil, Nat.zero_add, Nat.reduceAdd] at b5; replace b5 := eq_false (Nat.not_lt.2 b5))
      have H' := Aside0.mk H; clear H; have p101 : 0 ≤ (a1 : Int) := of_decide_eq_true (by assumption); have q101 : a1 < (l0.length : Int) := of_decide_eq_true (by assumption); obtain ⟨ad101, c7, a3, a4, a5, a6, a7⟩ := at_T65 HR0.out a1 p101 q101
      cases c7
      replace a3 := (upc_ HB.out a3 :); replace a4 := (upc_ HB.out a4 :); replace a5 := (upc_ HB.out a5 :); replace a6 := (upc_ HB.out a6 :); replace a7 := (upc_ HB.out a7 :); replace p101 := eq_true p101; replace q101 := eq_true q101
      go_wp2_with (first | ((with_reducible refine gc_ 82 rfl ?_); refine gl_ (some 23) rfl Tryz.func82 #[.agg #[.int .i64 ((rd_T65 l0 a1).f0), .int .i64 ((rd_T65 l0 a1).f1), .int .i64 ((rd_T65 l0 a1).f2), .int .i64 ((rd_T65 l0 a1).f3), .int .i64 ((rd_T65 l0 a1).f4)]] ?_; (with_reducible refine (spec_OpText.calls k1 ((rd_T65 l0 a1).f0) ((rd_T65 l0 a1).f1) ((rd_T65 l0 a1).f2) ((rd_T65 l0 a1).f3) ((rd_T65 l0 a1).f4) b3 _ A7.out).mono ?_); rintro e w9 ⟨rfl, hb⟩; refine ⟨_, rfl, ?_⟩; replace HB := Aside0.mk (below_step (upH HB.out) hb); (try clear hb)))
      go_roundg k1
      case measure => have := HK1.out; omega
      case rel => exact ⟨((a2 ++ (⟨#[44]⟩ : ByteArray)) ++ b3), (wrap64 (a1 + 1)), (by first | rfl | (simp; done) | (simp [*]; done)), (by first | rfl | (simp; done) | (simp [*]; done)), H', ⟨by have := HK1.out; omega⟩, ⟨upH HB.out⟩⟩
     rw [if_neg c8] at H
     exact absurd H (by simp)
    rw [if_neg c6] at H
    exact absurd H (by simp)
   rw [if_neg c4] at H
   have c1 : decide (0 < a1) = false := decide_eq_false c4; clear c4
   by_cases c10 : 0 ≤ a1
   ·
    rw [if_pos c10] at H
    replace c10 := decide_eq_true c10; obtain ⟨b4, A11, H⟩ := bindA H; (try dsimp only at H)
    by_cases c12 : a2.size + b4.size ≤ 9223372036854775807
    ·
     rw [if_pos c12] at H
     have d0 := eq_true c12; have d1 : decide (a2.size + b4.size ≤ 9223372036854775807) = true := decide_eq_true c12
     try have d2 : (9223372036854775807 < a2.size + b4.size) = False := eq_false (Nat.not_lt.2 c12)
     have H' := Aside0.mk H; clear H; have p103 : 0 ≤ (a1 : Int) := of_decide_eq_true (by assumption); have q103 : a1 < (l0.length : Int) := of_decide_eq_true (by assumption); obtain ⟨ad103, c9, a8, a9, b0, b1, b2⟩ := at_T65 HR0.out a1 p103 q103
     cases c9
     replace a8 := (upc_ HB.out a8 :); replace a9 := (upc_ HB.out a9 :); replace b0 := (upc_ HB.out b0 :); replace b1 := (upc_ HB.out b1 :); replace b2 := (upc_ HB.out b2 :); replace p103 := eq_true p103; replace q103 := eq_true q103
     go_wp2_with (first | ((with_reducible refine gc_ 82 rfl ?_); refine gl_ (some 23) rfl Tryz.func82 #[.agg #[.int .i64 ((rd_T65 l0 a1).f0), .int .i64 ((rd_T65 l0 a1).f1), .int .i64 ((rd_T65 l0 a1).f2), .int .i64 ((rd_T65 l0 a1).f3), .int .i64 ((rd_T65 l0 a1).f4)]] ?_; (with_reducible refine (spec_OpText.calls k1 ((rd_T65 l0 a1).f0) ((rd_T65 l0 a1).f1) ((rd_T65 l0 a1).f2) ((rd_T65 l0 a1).f3) ((rd_T65 l0 a1).f4) b4 _ A11.out).mono ?_); rintro e w13 ⟨rfl, hb⟩; refine ⟨_, rfl, ?_⟩; replace HB := Aside0.mk (below_step (upH HB.out) hb); (try clear hb)))
     go_roundg k1
     case measure => have := HK1.out; omega
     case rel => exact ⟨(a2 ++ b4), (wrap64 (a1 + 1)), (by first | rfl | (simp; done) | (simp [*]; done)), (by first | rfl | (simp; done) | (simp [*]; done)), H', ⟨by have := HK1.out; omega⟩, ⟨upH HB.out⟩⟩
    rw [if_neg c12] at H
    exact absurd H (by simp)
   rw [if_neg c10] at H
   exact absurd H (by simp)
end
section
open Go.Proofs.YtmplnpjdbfedbaaGreatDoorW.PrintWords.Aside0 renaming mk → yaa
abbrev q22_0 : Array Bool := Array.replicate 14 false
abbrev q22_1 : Array Bool := bl_ 14 1
abbrev q22_2 : Array Bool := bl_ 14 33
abbrev q22_3 : Array Bool := bl_ 14 545
abbrev q22_4 : Array Bool := bl_ 14 547
abbrev q22_5 : Array Bool := bl_ 14 611
abbrev q22_6 : Array Bool := bl_ 14 1635
abbrev q22_7 : Array Bool := bl_ 14 1639
abbrev q22_8 : Array Bool := bl_ 14 1647
abbrev q22_9 : Array Bool := bl_ 14 1663
abbrev q22_10 : Array Bool := bl_ 14 1791
abbrev q22_11 : Array Bool := bl_ 14 2047
abbrev q22_12 : Array Bool := bl_ 14 4095
abbrev q22_13 : Array Bool := bl_ 14 8191
abbrev q22_14 : Array Bool := bl_ 14 16383
def spec_AskText.f (k : Nat) (l0_0 : List (S65)) (a0_1 : ByteArray) (a0_2 : Int) : Option (ByteArray) := (spec_AskOk.f k l0_0 a0_1 a0_2).bind fun t102 => (if t102 = true then ((spec_l7Ops.f k l0_0).bind fun t103 => (if 1 + t103.size ≤ 9223372036854775807 then (if ((⟨#[47]⟩ : ByteArray) ++ t103).size + 1 ≤ 9223372036854775807 then (if (((⟨#[47]⟩ : ByteArray) ++ t103) ++ (⟨#[47]⟩ : ByteArray)).size + a0_1.size ≤ 9223372036854775807 then (if ((((⟨#[47]⟩ : ByteArray) ++ t103) ++ (⟨#[47]⟩ : ByteArray)) ++ a0_1).size + 3 ≤ 9223372036854775807 then ((spec_l7Plain.f k a0_2).bind fun t104 => (if (((((⟨#[47]⟩ : ByteArray) ++ t103) ++ (⟨#[47]⟩ : ByteArray)) ++ a0_1) ++ (⟨#[63, 101, 61]⟩ : ByteArray)).size + t104.size ≤ 9223372036854775807 then (some ((((((⟨#[47]⟩ : ByteArray) ++ t103) ++ (⟨#[47]⟩ : ByteArray)) ++ a0_1) ++ (⟨#[63, 101, 61]⟩ : ByteArray)) ++ t104)) else (none))) else (none)) else (none)) else (none)) else (none))) else (some (⟨#[]⟩ : ByteArray)))
def spec_AskText.T3 : Bool × List (List Nat × List Nat) := (true, [([], []), ([0], [0]), ([1], [1]), ([2], [2]), ([3], [3]), ([], []), ([5], [5]), ([4, 6], [4, 6]), ([7], [7]), ([], []), ([9], [9]), ([10, 2], [10]), ([8, 11], [8, 11]), ([12, 11, 0, 1, 2, 3, 4, 5, 6, 7, 8, 9, 10, 11, 12], [12])])
def spec_AskText.B3 : List Nat := [0, 1, 3, 7, 15, 0, 32, 127, 255, 0, 512, 1543, 4095, 8191]
theorem spec_AskText.tab3 : rtab .any (opsOf Tryz.f22 3) = spec_AskText.T3 := by kernel_rfl
theorem spec_AskText.bits3 : waitsOk spec_AskText.T3.2 spec_AskText.B3 = true := by kernel_rfl
set_option maxHeartbeats 8000000 in
set_option maxRecDepth 100000 in
theorem spec_AskText.calls (k : Nat) (A0_0 : Option Addr) (c0_0 : Nat) (l0_0 : List (S65)) (a0_1 : ByteArray) (a0_2 : Int) (r : ByteArray) (w : World) (hr0_0 : Kd.C k65 w A0_0 l0_0.length l0_0) (hc0_0 : l0_0.length ≤ c0_0) (h : spec_AskText.f k l0_0 a0_1 a0_2 = some r) :
  Calls Tryz.prog 22 #[.agg #[.slice A0_0 l0_0.length c0_0, .string a0_1, .int .i64 a0_2]] w fun e w' => e = .returned (.string r) ∧ Below w.heap.size w w' := by
 have hu25 := Tryz.underlying25; have HR0_0 := yaa hr0_0; have HC0_0 := yaa hc0_0; clear hr0_0 hc0_0; have HB := yaa (Below.refl w.heap.size w); have H : ((spec_AskOk.f k l0_0 a0_1 a0_2).bind fun a9 => (if a9 = true then ((spec_l7Ops.f k l0_0).bind fun a4 => (if 1 + a4.size ≤ 9223372036854775807 then (if ((⟨#[47]⟩ : ByteArray) ++ a4).size + 1 ≤ 9223372036854775807 then (if (((⟨#[47]⟩ : ByteArray) ++ a4) ++ (⟨#[47]⟩ : ByteArray)).size + a0_1.size ≤ 9223372036854775807 then (if ((((⟨#[47]⟩ : ByteArray) ++ a4) ++ (⟨#[47]⟩ : ByteArray)) ++ a0_1).size + 3 ≤ 9223372036854775807 then ((spec_l7Plain.f k a0_2).bind fun a6 => (if (((((⟨#[47]⟩ : ByteArray) ++ a4) ++ (⟨#[47]⟩ : ByteArray)) ++ a0_1) ++ (⟨#[63, 101, 61]⟩ : ByteArray)).size + a6.size ≤ 9223372036854775807 then (some ((((((⟨#[47]⟩ : ByteArray) ++ a4) ++ (⟨#[47]⟩ : ByteArray)) ++ a0_1) ++ (⟨#[63, 101, 61]⟩ : ByteArray)) ++ a6)) else (none))) else (none)) else (none)) else (none)) else (none))) else (some (⟨#[]⟩ : ByteArray)))) = some r := h; clear h; obtain ⟨a9, A2, H⟩ := bindA H; (try dsimp only at H)
 by_cases c3 : a9 = true
 rotate_left
 ·
  replace c3 := Bool.eq_false_iff.mpr c3
  subst c3
  rw [if_neg (show ¬ (false = true) by decide)] at H
  obtain rfl := Option.some.inj H
  go_enter Tryz.func22, Tryz.ntmps22
  go_wp2_with (first | ((with_reducible refine gd_ 1 rfl ?_); refine bx_ 1 rfl #[.slice A0_0 l0_0.length c0_0, .string a0_1, .int .i64 a0_2] 25 ?_; intro a5 hg w17 hbox hb; have a3 := yaa (hbox); have a8 := yaa ((by rw [hg]; exact (below_size (upH HB.out)) : w.heap.size ≤ a5)); replace HB := yaa (below_step (upH HB.out) hb); have b3 := a8; clear hb hbox hg; obtain ⟨c0, c1, c2⟩ := cc3_ a3.out; obtain ⟨c4, c9⟩ := cf2_ a3.out; have d0 := blk_frozen a3.out 2) | ((with_reducible refine gc_ 21 rfl ?_); refine gl_ (some 4) rfl Tryz.func21 #[.agg #[.slice A0_0 l0_0.length c0_0, .string a0_1, .int .i64 a0_2]] ?_; (with_reducible refine (spec_AskOk.calls k _ _ l0_0 a0_1 a0_2 false _ ?side1 ?side2 A2.out).mono ?_); (case side1 => repeat (first | exact (Kd.C_below HR0_0.out HB.out) | (with_reducible refine Kd.C_alloc ?_ _) | (with_reducible refine Kd.C_drewN ?_ _) | (with_reducible refine Kd.C_drew ?_))); (case side2 => exact HC0_0.out); rintro e w19 ⟨rfl, hb⟩; refine ⟨_, rfl, ?_⟩; replace a3 := yaa (blk_below (upB a3.out) hb); replace HB := yaa (below_step (by repeat (with_reducible first | exact HB.out | apply below_alloc | apply pw_below_drewN | apply below_drew1 | refine below_set ?_ (Aside0.out ‹_›))) hb); (try clear hb)))
  go_ret
  exact ⟨by first | rfl | (simp [*, errW_none, errW_some] <;> rfl), by repeat (with_reducible first | exact HB.out | apply below_alloc | apply pw_below_drewN | apply below_drew1 | refine below_set ?_ (Aside0.out ‹_›))⟩
 subst c3
 rw [if_pos rfl] at H
 obtain ⟨a4, A4, H⟩ := bindA H; (try dsimp only at H)
 by_cases c5 : 1 + a4.size ≤ 9223372036854775807
 rotate_left
 ·
  rw [if_neg c5] at H
  exact absurd H (by simp)
 rw [if_pos c5] at H
 have d6 := eq_true c5; have d7 : decide (1 + a4.size ≤ 9223372036854775807) = true := decide_eq_true c5
 try have d8 : (9223372036854775807 < 1 + a4.size) = False := eq_false (Nat.not_lt.2 c5)
 by_cases c6 : ((⟨#[47]⟩ : ByteArray) ++ a4).size + 1 ≤ 9223372036854775807
 rotate_left
 ·
  rw [if_neg c6] at H
  exact absurd H (by simp)
 rw [if_pos c6] at H
 have d9 := eq_true c6; have e0 : decide (((⟨#[47]⟩ : ByteArray) ++ a4).size + 1 ≤ 9223372036854775807) = true := decide_eq_true c6
 try have e1 : (9223372036854775807 < ((⟨#[47]⟩ : ByteArray) ++ a4).size + 1) = False := eq_false (Nat.not_lt.2 c6)
 try (have b0 := c6; simp only [ByteArray.size_append', ByteArray.size_mk', List.size_toArray, List.length_cons, List.length_nil, Nat.zero_add, Nat.reduceAdd] at b0; replace b0 := eq_false (Nat.not_lt.2 b0))
 by_cases c7 : (((⟨#[47]⟩ : ByteArray) ++ a4) ++ (⟨#[47]⟩ : ByteArray)).size + a0_1.size ≤ 9223372036854775807
 rotate_left
 ·
  rw [if_neg c7] at H
  exact absurd H (by simp)
 rw [if_pos c7] at H
 have e2 := eq_true c7; have e3 : decide ((((⟨#[47]⟩ : ByteArray) ++ a4) ++ (⟨#[47]⟩ : ByteArray)).size + a0_1.size ≤ 9223372036854775807) = true := decide_eq_true c7
 try have e4 : (9223372036854775807 < (((⟨#[47]⟩ : ByteArray) ++ a4) ++ (⟨#[47]⟩ : ByteArray)).size + a0_1.size) = False := eq_false (Nat.not_lt.2 c7)
 try (have b1 := c7; simp only [ByteArray.size_append', ByteArray.size_mk', List.size_toArray, List.length_cons, List.length_nil, Nat.zero_add, Nat.reduceAdd] at b1; replace b1 := eq_false (Nat.not_lt.2 b1))
 by_cases c8 : ((((⟨#[47]⟩ : ByteArray) ++ a4) ++ (⟨#[47]⟩ : ByteArray)) ++ a0_1).size + 3 ≤ 9223372036854775807
 rotate_left
 ·
  rw [if_neg c8] at H
  exact absurd H (by simp)
 rw [if_pos c8] at H
 have e5 := eq_true c8; have e6 : decide (((((⟨#[47]⟩ : ByteArray) ++ a4) ++ (⟨#[47]⟩ : ByteArray)) ++ a0_1).size + 3 ≤ 9223372036854775807) = true := decide_eq_true c8
 try have e7 : (9223372036854775807 < ((((⟨#[47]⟩ : ByteArray) ++ a4) ++ (⟨#[47]⟩ : ByteArray)) ++ a0_1).size + 3) = False := eq_false (Nat.not_lt.2 c8)
 try (have b2 := c8; simp only [ByteArray.size_append', ByteArray.size_mk', List.size_toArray, List.length_cons, List.length_nil, Nat.zero_add, Nat.reduceAdd] at b2; replace b2 := eq_false (Nat.not_lt.2 b2))
 obtain ⟨a6, A9, H⟩ := bindA H; (try dsimp only at H)
 by_cases c10 : (((((⟨#[47]⟩ : ByteArray) ++ a4) ++ (⟨#[47]⟩ : ByteArray)) ++ a0_1) ++ (⟨#[63, 101, 61]⟩ : ByteArray)).size + a6.size ≤ 9223372036854775807
 rotate_left
 ·
  rw [if_neg c10] at H
  exact absurd H (by simp)
 rw [if_pos c10] at H
 have d3 := eq_true c10; have d4 : decide ((((((⟨#[47]⟩ : ByteArray) ++ a4) ++ (⟨#[47]⟩ : ByteArray)) ++ a0_1) ++ (⟨#[63, 101, 61]⟩ : ByteArray)).size + a6.size ≤ 9223372036854775807) = true := decide_eq_true c10
 try have d5 : (9223372036854775807 < (((((⟨#[47]⟩ : ByteArray) ++ a4) ++ (⟨#[47]⟩ : ByteArray)) ++ a0_1) ++ (⟨#[63, 101, 61]⟩ : ByteArray)).size + a6.size) = False := eq_false (Nat.not_lt.2 c10)
 try (have a7 := c10; simp only [ByteArray.size_append', ByteArray.size_mk', List.size_toArray, List.length_cons, List.length_nil, Nat.zero_add, Nat.reduceAdd] at a7; replace a7 := eq_false (Nat.not_lt.2 a7))
 obtain rfl := Option.some.inj H
 go_enter Tryz.func22, Tryz.ntmps22
 try go_wp2_with (first | ((with_reducible refine gd_ 1 rfl ?_); refine bx_ 1 rfl #[.slice A0_0 l0_0.length c0_0, .string a0_1, .int .i64 a0_2] 25 ?_; intro a5 hg w11 hbox hb; have a3 := yaa (hbox); have a8 := yaa ((by rw [hg]; exact (below_size (upH HB.out)) : w.heap.size ≤ a5)); replace HB := yaa (below_step (upH HB.out) hb); have b3 := a8; clear hb hbox hg; obtain ⟨b4, b5, b6⟩ := cc3_ a3.out; obtain ⟨b7, b8⟩ := cf2_ a3.out; have b9 := blk_frozen a3.out 2) | ((with_reducible refine gc_ 21 rfl ?_); refine gl_ (some 4) rfl Tryz.func21 #[.agg #[.slice A0_0 l0_0.length c0_0, .string a0_1, .int .i64 a0_2]] ?_; (with_reducible refine (spec_AskOk.calls k _ _ l0_0 a0_1 a0_2 true _ ?side1 ?side2 A2.out).mono ?_); (case side1 => repeat (first | exact (Kd.C_below HR0_0.out HB.out) | (with_reducible refine Kd.C_alloc ?_ _) | (with_reducible refine Kd.C_drewN ?_ _) | (with_reducible refine Kd.C_drew ?_))); (case side2 => exact HC0_0.out); rintro e w13 ⟨rfl, hb⟩; refine ⟨_, rfl, ?_⟩; replace a3 := yaa (blk_below (upB a3.out) hb); replace HB := yaa (below_step (by repeat (with_reducible first | exact HB.out | apply below_alloc | apply pw_below_drewN | apply below_drew1 | refine below_set ?_ (Aside0.out ‹_›))) hb); (try clear hb)))
 replace a3 := yaa (blk_drew a3.out); replace HB := yaa (below_drew1 HB.out)
 refine start_ (n := 14) (S := fun w' => w'.cell? ⟨a5, 0, none⟩ = some (.slice A0_0 l0_0.length c0_0) ∧ w'.cell? ⟨a5, 1, none⟩ = some (.string a0_1) ∧ w'.cell? ⟨a5, 2, none⟩ = some (.int .i64 a0_2)) (ds := []) q22_0 (by kernel_rfl) rfl rfl ⟨(blk_cell a3.out 0).trans rfl, (blk_cell a3.out 1).trans rfl, (blk_cell a3.out 2).trans rfl⟩ (fun hHeld => ?_); refine with_tabW spec_AskText.tab3 spec_AskText.bits3 (fun HT_ HW_ => ?_)
 generalize w13.drew = w14 at a3 HB hHeld ⊢
 refine pz_ 0 6 q22_1 HT_ (by kernel_rfl) ?_
 refine pz_ 5 11 q22_2 HT_ (by kernel_rfl) ?_
 refine pz_ 9 15 q22_3 HT_ (by kernel_rfl) ?_
 refine tz_ 1 7 q22_4 HT_ HW_ (by kernel_rfl) hHeld ?_
 refine tz_ 6 12 q22_5 HT_ HW_ (by kernel_rfl) hHeld ?_
 refine tz_ 10 16 q22_6 HT_ HW_ (by kernel_rfl) hHeld ?_
 refine one_ (i := 2) (N := some 8) q22_7 rfl rfl (one_of HT_.out (by kernel_rfl)) (by decide) (fun K hK => ?_)
 refine goes_ Tryz.func51 (by kernel_rfl) rfl #[.slice A0_0 l0_0.length c0_0] (by rfl) rfl rfl (by (try simp only [List.map_toArray, List.map_cons, List.map_nil]); first | done | rfl | (simp only [List.length_drop, List.length_take]; rfl)) ?_
 with_reducible refine (spec_l7Ops.calls k _ _ l0_0 a4 _ ?side1 ?side2 A4.out).mono ?_
 (case side1 => repeat (first | exact (Kd.C_below HR0_0.out HB.out) | (with_reducible refine Kd.C_alloc ?_ _) | (with_reducible refine Kd.C_drewN ?_ _) | (with_reducible refine Kd.C_drew ?_)))
 (case side2 => exact HC0_0.out)
 rintro e w15 ⟨rfl, hb⟩; refine ⟨_, rfl, ?_⟩; have n0_ := yaa (blk_below (upB a3.out) hb)
 have n1_ := yaa (below_step (by repeat (with_reducible first | exact HB.out | apply below_alloc | apply pw_below_drewN | apply below_drew1 | refine below_set ?_ (Aside0.out ‹_›))) hb)
 clear a3; clear HB; have a3 := n0_; have HB := n1_; clear n0_ n1_; (try clear hb); (try clear hb2); (try clear hk); (try clear hi)
 refine hK.out _ _ ⟨(blk_cell a3.out 0).trans rfl, (blk_cell a3.out 1).trans rfl, (blk_cell a3.out 2).trans rfl⟩ (fun hHeld => ?_)
 clear hK K
 refine norm_ (a' := ?_) ?_ ?_
 rotate_left
 ·
  show Act.put _ (some 8) _ = _
  simp only [Act.put, List.setIfInBounds_toArray, List.set_cons_zero, List.set_cons_succ, i64_w, i32_w]
  rfl
 refine pz_ 3 9 q22_8 HT_ (by kernel_rfl) ?_
 refine pz_ 4 10 q22_9 HT_ (by kernel_rfl) ?_
 refine pz_ 7 13 q22_10 HT_ (by kernel_rfl) ?_
 refine pz_ 8 14 q22_11 HT_ (by kernel_rfl) ?_
 refine one_ (i := 11) (N := some 17) q22_12 rfl rfl (one_of HT_.out (by kernel_rfl)) (by decide) (fun K hK => ?_)
 refine goes_ Tryz.func52 (by kernel_rfl) rfl #[.int .i64 a0_2] (by rfl) rfl rfl (by (try simp only [List.map_toArray, List.map_cons, List.map_nil]); first | done | rfl | (simp only [List.length_drop, List.length_take]; rfl)) ?_
 with_reducible refine (spec_l7Plain.calls k a0_2 a6 _ A9.out).mono ?_
 rintro e w16 ⟨rfl, hb⟩; refine ⟨_, rfl, ?_⟩; have n0_ := yaa (blk_below (upB a3.out) hb)
 have n1_ := yaa (below_step (by repeat (with_reducible first | exact HB.out | apply below_alloc | apply pw_below_drewN | apply below_drew1 | refine below_set ?_ (Aside0.out ‹_›))) hb)
 clear a3; clear HB; have a3 := n0_; have HB := n1_; clear n0_ n1_; (try clear hb); (try clear hb2); (try clear hk); (try clear hi)
 refine hK.out _ _ ⟨(blk_cell a3.out 0).trans rfl, (blk_cell a3.out 1).trans rfl, (blk_cell a3.out 2).trans rfl⟩ (fun hHeld => ?_)
 clear hK K
 refine norm_ (a' := ?_) ?_ ?_
 rotate_left
 ·
  show Act.put _ (some 17) _ = _
  simp only [Act.put, List.setIfInBounds_toArray, List.set_cons_zero, List.set_cons_succ, i64_w, i32_w]
  rfl
 refine pz_ 12 18 q22_13 HT_ (by kernel_rfl) ?_
 refine pz_ 13 2 q22_14 HT_ (by kernel_rfl) ?_
 refine done_ (done_of HT_.out (by kernel_rfl)) ?_
 try go_wp2
 go_ret
 exact ⟨by first | rfl | (simp [*, errW_none, errW_some] <;> rfl), by repeat (with_reducible first | exact HB.out | apply below_alloc | apply pw_below_drewN | apply below_drew1 | refine below_set ?_ (Aside0.out ‹_›))⟩
end
section
open Go.Proofs.YtmplnpjdbfedbaaGreatDoorW.PrintWords.Aside0 renaming mk → yaa
open Go.Proofs.YtmplnpjdbfedbaaGreatDoorW.PrintWords.KeepBut renaming set_ → yab, trans → yaj, of_below → yar
open Go.Proofs.YtmplnpjdbfedbaaGreatDoor.X.IsS77 renaming alloc → yac, drewN → yad, set_1 → yae, drew → yag, ge → yap, apart → yas
open Go.Proofs.YtmplnpjdbfedbaaGreatDoorW.PrintWords renaming pw_below_drewN → yaf, keep_drewN → yah, keep_alloc → yai, below_alloc → yak, below_drew1 → yal, keep_drew → yam, below_set → yao
open Go.Proofs.YtmplnpjdbfedbaaGreatDoorW.PrintWords.Reps renaming one → yan
open Go.Proofs.YtmplnpjdbfedbaaGreatDoorW.PrintWords.Kd renaming int → yaq
def spec_l20Bent.f (k : Nat) (s0_0 : List Int) (s0_1 : Int) (a1 : ByteArray) : Option (ByteArray × Int) := (spec_l20Rd_pick.f k s0_0 s0_1 (wrap64 ((a1.size : Int) + 1))).bind fun bt101 => ((spec_l20Rd_pick.f k s0_0 bt101.2 256).bind fun bt103 => ((some (([32, 48, 49, 57, 47, 46, 97, bt103.1] : List Int) : List Int)).bind fun y105 => ((spec_l20Rd_pick.f k s0_0 bt103.2 8).bind fun bt108 => (if 0 ≤ bt108.1 then (if bt108.1 < (y105.length : Int) then ((some (([(rd y105 bt108.1) % 256] : List Int) : List Int)).bind fun y111 => ((spec_l20Rd_pick.f k s0_0 bt108.2 3).bind fun bt114 => (if bt114.1 = 0 then (if 0 ≤ bt101.1 then (if bt101.1 ≤ (a1.size : Int) then (if (a1.extract 0 (bt101.1 : Int).toNat).size + (strOfNums y111).size ≤ 9223372036854775807 then (if ((a1.extract 0 (bt101.1 : Int).toNat) ++ (strOfNums y111)).size + (a1.extract (bt101.1 : Int).toNat a1.size).size ≤ 9223372036854775807 then (some (((a1.extract 0 (bt101.1 : Int).toNat) ++ (strOfNums y111)) ++ (a1.extract (bt101.1 : Int).toNat a1.size), bt114.2)) else (none)) else (none)) else (none)) else (none)) else (if bt114.1 = 1 then (if bt101.1 < (a1.size : Int) then (if 0 ≤ bt101.1 then (if bt101.1 ≤ (a1.size : Int) then (if 0 ≤ (wrap64 (bt101.1 + 1)) then (if (wrap64 (bt101.1 + 1)) ≤ (a1.size : Int) then (if (a1.extract 0 (bt101.1 : Int).toNat).size + (a1.extract ((wrap64 (bt101.1 + 1)) : Int).toNat a1.size).size ≤ 9223372036854775807 then (some ((a1.extract 0 (bt101.1 : Int).toNat) ++ (a1.extract ((wrap64 (bt101.1 + 1)) : Int).toNat a1.size), bt114.2)) else (none)) else (none)) else (none)) else (none)) else (none)) else (some (a1, bt114.2))) else (if bt101.1 < (a1.size : Int) then (if 0 ≤ bt101.1 then (if bt101.1 ≤ (a1.size : Int) then (if (a1.extract 0 (bt101.1 : Int).toNat).size + (strOfNums y111).size ≤ 9223372036854775807 then (if 0 ≤ (wrap64 (bt101.1 + 1)) then (if (wrap64 (bt101.1 + 1)) ≤ (a1.size : Int) then (if ((a1.extract 0 (bt101.1 : Int).toNat) ++ (strOfNums y111)).size + (a1.extract ((wrap64 (bt101.1 + 1)) : Int).toNat a1.size).size ≤ 9223372036854775807 then (some (((a1.extract 0 (bt101.1 : Int).toNat) ++ (strOfNums y111)) ++ (a1.extract ((wrap64 (bt101.1 + 1)) : Int).toNat a1.size), bt114.2)) else (none)) else (none)) else (none)) else (none)) else (none)) else (none)) else (some (a1, bt114.2))))))) else (none)) else (none)))))
set_option maxHeartbeats 8000000 in
set_option maxRecDepth 100000 in
theorem spec_l20Bent.calls (k : Nat) (g : Nat) (s0_0 : List Int) (s0_1 : Int) (a1 : ByteArray) (r1 : ByteArray) (r2 : Int) (w0 w : World) (hI : IsS77 w0 w g s0_0 s0_1) (hB : Below w0.heap.size w0 w) (h : spec_l20Bent.f k s0_0 s0_1 a1 = some (r1, r2)) :
  Calls Tryz.prog 28 #[.pointer (some ⟨g, 0, none⟩), .string a1] w fun e w' => e = .returned (.string r1) ∧ IsS77 w0 w' g s0_0 r2 ∧ Below w0.heap.size w0 w' ∧ KeepBut w w' g none := by
 have HI0 := yaa hI; have HK := yaa (KeepBut.refl w g none); have HL := yaa hB.size; clear hI; have HW0 := yaa hB.size; have HB := yaa hB; clear hB; have H : ((spec_l20Rd_pick.f k s0_0 s0_1 (wrap64 ((a1.size : Int) + 1))).bind fun a6 => ((spec_l20Rd_pick.f k s0_0 a6.2 256).bind fun d5 => ((some (([32, 48, 49, 57, 47, 46, 97, d5.1] : List Int) : List Int)).bind fun y105 => ((spec_l20Rd_pick.f k s0_0 d5.2 8).bind fun b7 => (if 0 ≤ b7.1 then (if b7.1 < (y105.length : Int) then ((some (([(rd y105 b7.1) % 256] : List Int) : List Int)).bind fun y111 => ((spec_l20Rd_pick.f k s0_0 b7.2 3).bind fun a9 => (if a9.1 = 0 then (if 0 ≤ a6.1 then (if a6.1 ≤ (a1.size : Int) then (if (a1.extract 0 (a6.1 : Int).toNat).size + (strOfNums y111).size ≤ 9223372036854775807 then (if ((a1.extract 0 (a6.1 : Int).toNat) ++ (strOfNums y111)).size + (a1.extract (a6.1 : Int).toNat a1.size).size ≤ 9223372036854775807 then (some (((a1.extract 0 (a6.1 : Int).toNat) ++ (strOfNums y111)) ++ (a1.extract (a6.1 : Int).toNat a1.size), a9.2)) else (none)) else (none)) else (none)) else (none)) else (if a9.1 = 1 then (if a6.1 < (a1.size : Int) then (if 0 ≤ a6.1 then (if a6.1 ≤ (a1.size : Int) then (if 0 ≤ (wrap64 (a6.1 + 1)) then (if (wrap64 (a6.1 + 1)) ≤ (a1.size : Int) then (if (a1.extract 0 (a6.1 : Int).toNat).size + (a1.extract ((wrap64 (a6.1 + 1)) : Int).toNat a1.size).size ≤ 9223372036854775807 then (some ((a1.extract 0 (a6.1 : Int).toNat) ++ (a1.extract ((wrap64 (a6.1 + 1)) : Int).toNat a1.size), a9.2)) else (none)) else (none)) else (none)) else (none)) else (none)) else (some (a1, a9.2))) else (if a6.1 < (a1.size : Int) then (if 0 ≤ a6.1 then (if a6.1 ≤ (a1.size : Int) then (if (a1.extract 0 (a6.1 : Int).toNat).size + (strOfNums y111).size ≤ 9223372036854775807 then (if 0 ≤ (wrap64 (a6.1 + 1)) then (if (wrap64 (a6.1 + 1)) ≤ (a1.size : Int) then (if ((a1.extract 0 (a6.1 : Int).toNat) ++ (strOfNums y111)).size + (a1.extract ((wrap64 (a6.1 + 1)) : Int).toNat a1.size).size ≤ 9223372036854775807 then (some (((a1.extract 0 (a6.1 : Int).toNat) ++ (strOfNums y111)) ++ (a1.extract ((wrap64 (a6.1 + 1)) : Int).toNat a1.size), a9.2)) else (none)) else (none)) else (none)) else (none)) else (none)) else (none)) else (some (a1, a9.2))))))) else (none)) else (none)))))) = some (r1, r2) := h; clear h; obtain ⟨⟨a3, b3⟩, A3, H⟩ := bindA H; (try dsimp only at H); obtain ⟨⟨a8, b1⟩, A4, H⟩ := bindA H; (try dsimp only at H); obtain ⟨y105, hy105, H⟩ := bindY H; (try dsimp only at H); have Ny105 := yaa hy105; clear hy105; obtain ⟨⟨a5, b0⟩, A5, H⟩ := bindA H; (try dsimp only at H)
 by_cases c6 : 0 ≤ a5
 rotate_left
 ·
  rw [if_neg c6] at H
  exact absurd H (by simp)
 rw [if_pos c6] at H
 replace c6 := decide_eq_true c6
 by_cases c7 : a5 < (y105.length : Int)
 rotate_left
 ·
  rw [if_neg c7] at H
  exact absurd H (by simp)
 rw [if_pos c7] at H
 replace c7 := decide_eq_true c7; obtain ⟨y111, hy111⟩ : ∃ y_ : List Int, y_ = (([(rd y105 a5) % 256] : List Int)) := ⟨_, rfl⟩
 replace H : ((spec_l20Rd_pick.f k s0_0 b0 3).bind fun a9 => (if a9.1 = 0 then (if 0 ≤ a3 then (if a3 ≤ (a1.size : Int) then (if (a1.extract 0 (a3 : Int).toNat).size + (strOfNums y111).size ≤ 9223372036854775807 then (if ((a1.extract 0 (a3 : Int).toNat) ++ (strOfNums y111)).size + (a1.extract (a3 : Int).toNat a1.size).size ≤ 9223372036854775807 then (some (((a1.extract 0 (a3 : Int).toNat) ++ (strOfNums y111)) ++ (a1.extract (a3 : Int).toNat a1.size), a9.2)) else (none)) else (none)) else (none)) else (none)) else (if a9.1 = 1 then (if a3 < (a1.size : Int) then (if 0 ≤ a3 then (if a3 ≤ (a1.size : Int) then (if 0 ≤ (wrap64 (a3 + 1)) then (if (wrap64 (a3 + 1)) ≤ (a1.size : Int) then (if (a1.extract 0 (a3 : Int).toNat).size + (a1.extract ((wrap64 (a3 + 1)) : Int).toNat a1.size).size ≤ 9223372036854775807 then (some ((a1.extract 0 (a3 : Int).toNat) ++ (a1.extract ((wrap64 (a3 + 1)) : Int).toNat a1.size), a9.2)) else (none)) else (none)) else (none)) else (none)) else (none)) else (some (a1, a9.2))) else (if a3 < (a1.size : Int) then (if 0 ≤ a3 then (if a3 ≤ (a1.size : Int) then (if (a1.extract 0 (a3 : Int).toNat).size + (strOfNums y111).size ≤ 9223372036854775807 then (if 0 ≤ (wrap64 (a3 + 1)) then (if (wrap64 (a3 + 1)) ≤ (a1.size : Int) then (if ((a1.extract 0 (a3 : Int).toNat) ++ (strOfNums y111)).size + (a1.extract ((wrap64 (a3 + 1)) : Int).toNat a1.size).size ≤ 9223372036854775807 then (some (((a1.extract 0 (a3 : Int).toNat) ++ (strOfNums y111)) ++ (a1.extract ((wrap64 (a3 + 1)) : Int).toNat a1.size), a9.2)) else (none)) else (none)) else (none)) else (none)) else (none)) else (none)) else (some (a1, a9.2)))))) = some (r1, r2) := by first | (rw [hy111]; with_reducible exact H) | (have H2_ := (Option.bind_some _ _).symm.trans H; rw [hy111]; with_reducible exact H2_) | (have H2_ := (Option.bind_some _ _).symm.trans H; with_reducible exact H2_) | with_reducible exact H | (rw [hy111]; exact H) | exact H
 have Ny111 := yaa hy111; clear hy111; obtain ⟨⟨b5, b6⟩, A8, H⟩ := bindA H; (try dsimp only at H)
 by_cases c9 : b5 = 0
 ·
  rw [if_pos c9] at H
  have e0 := beq_iff_eq.mpr c9; have e1 := bne_eq_false_iff_eq.mpr c9; clear c9
  by_cases c10 : 0 ≤ a3
  rotate_left
  ·
   rw [if_neg c10] at H
   exact absurd H (by simp)
  rw [if_pos c10] at H
  have e7 := eq_true c10; replace c10 := decide_eq_true c10
  by_cases c11 : a3 ≤ (a1.size : Int)
  rotate_left
  ·
   rw [if_neg c11] at H
   exact absurd H (by simp)
  rw [if_pos c11] at H
  have e8 := eq_true c11; replace c11 := decide_eq_true c11
  by_cases c12 : (a1.extract 0 (a3 : Int).toNat).size + (strOfNums y111).size ≤ 9223372036854775807
  ·
   rw [if_pos c12] at H
   have e9 := eq_true c12; have f0 : decide ((a1.extract 0 (a3 : Int).toNat).size + (strOfNums y111).size ≤ 9223372036854775807) = true := decide_eq_true c12
   try have f1 : (9223372036854775807 < (a1.extract 0 (a3 : Int).toNat).size + (strOfNums y111).size) = False := eq_false (Nat.not_lt.2 c12)
   have f2 := eq_true (of_decide_eq_true (by assumption) : 0 ≤ a3); have f3 := eq_true (of_decide_eq_true (by assumption) : a3 ≤ (a1.size : Int))
   by_cases c15 : ((a1.extract 0 (a3 : Int).toNat) ++ (strOfNums y111)).size + (a1.extract (a3 : Int).toNat a1.size).size ≤ 9223372036854775807
   ·
    rw [if_pos c15] at H
    have f4 := eq_true c15; have f5 : decide (((a1.extract 0 (a3 : Int).toNat) ++ (strOfNums y111)).size + (a1.extract (a3 : Int).toNat a1.size).size ≤ 9223372036854775807) = true := decide_eq_true c15
    try have f6 : (9223372036854775807 < ((a1.extract 0 (a3 : Int).toNat) ++ (strOfNums y111)).size + (a1.extract (a3 : Int).toNat a1.size).size) = False := eq_false (Nat.not_lt.2 c15)
    try (have b8 := c15; simp only [ByteArray.size_append', ByteArray.size_mk', List.size_toArray, List.length_cons, List.length_nil, Nat.zero_add, Nat.reduceAdd] at b8; replace b8 := eq_false (Nat.not_lt.2 b8))
    simp only [Option.some.injEq, Prod.mk.injEq] at H
    obtain ⟨rfl, rfl⟩ := H
    go_enter Tryz.func28, Tryz.ntmps28
    go_wp2_with (first | (go_at_call 27; (with_reducible refine (spec_l20Rd_pick.calls k g s0_0 s0_1 (wrap64 ((a1.size : Int) + 1)) a3 b3 w0 _ ?side1 ?side2 A3.out).mono ?_); (case side1 => repeat (with_reducible first | exact HI0.out | apply yac | apply yad | apply yag | apply yae)); (case side2 => repeat (with_reducible first | exact HB.out | apply yak | apply yaf | apply yal | refine yao ?_ (yap HI0.out))); rintro e w16 ⟨rfl, hi, hb, hk⟩; replace HK := yaa (yaj (by repeat (with_reducible first | exact HK.out | apply yab | apply yah | apply yam | apply yai)) hk (.inl rfl)); replace HB := yaa (hb); replace HI0 := yaa (hi); (try clear hb hk hi)) | (go_at_call 27; (with_reducible refine (spec_l20Rd_pick.calls k g s0_0 b3 256 a8 b1 w0 _ ?side1 ?side2 A4.out).mono ?_); (case side1 => repeat (with_reducible first | exact HI0.out | apply yac | apply yad | apply yag | apply yae)); (case side2 => repeat (with_reducible first | exact HB.out | apply yak | apply yaf | apply yal | refine yao ?_ (yap HI0.out))); rintro e w17 ⟨rfl, hi, hb, hk⟩; replace HK := yaa (yaj (by repeat (with_reducible first | exact HK.out | apply yab | apply yah | apply yam | apply yai)) hk (.inl rfl)); replace HB := yaa (hb); replace HI0 := yaa (hi); (try clear hb hk hi)) | ((with_reducible refine gd_ 14 rfl ?_); refine Kd.R_lit (yaq .i64) _ 3 ?hg (N := 14) ?hd (xs := ([32, 48, 49, 57, 47, 46, 97, a8] : List Int)) (inner := [.int .i64 32, .int .i64 48, .int .i64 49, .int .i64 57, .int .i64 47, .int .i64 46, .int .i64 97, .int .i64 a8]) (ok := fun _ => True) (okp := fun _ => True) ?hr ?hp (fun _ hk => hk) trivial (Below.refl _ _) (Nat.le_refl _) (by simp) ?_; (case hd => rfl); (case hg => rfl); (case hr => first | (go_simp; done) | (go_simp; rfl)); (case hp => exact (yan (show Kd.M (yaq .i64) _ _ _ 32 [.int .i64 32] from rfl) (yan (show Kd.M (yaq .i64) _ _ _ 48 [.int .i64 48] from rfl) (yan (show Kd.M (yaq .i64) _ _ _ 49 [.int .i64 49] from rfl) (yan (show Kd.M (yaq .i64) _ _ _ 57 [.int .i64 57] from rfl) (yan (show Kd.M (yaq .i64) _ _ _ 47 [.int .i64 47] from rfl) (yan (show Kd.M (yaq .i64) _ _ _ 46 [.int .i64 46] from rfl) (yan (show Kd.M (yaq .i64) _ _ _ 97 [.int .i64 97] from rfl) (yan (show Kd.M (yaq .i64) _ _ _ a8 [.int .i64 a8] from rfl) (Reps.none _ _)))))))))); intro d3 w18 b9 hb hg_ hnew_; clear hg_ hnew_; (first | rw [← Ny105.out] at b9 | (simp only [Int.reduceToNat] at b9; rw [← Ny105.out] at b9)); have a4 := yaa (Kd.R_lower b9 (keep_size (w := w) (g := g) (row := none) (by repeat (with_reducible first | exact HK.out | apply yab | apply yah | apply yam | apply yai)))); replace HK := yaa (yaj (by repeat (with_reducible first | exact HK.out | apply yab | apply yah | apply yam | apply yai)) (yar hb g none) (.inl rfl)); replace HB := yaa (below_step (by repeat (with_reducible first | exact HB.out | apply yak | apply yaf | apply yal | refine yao ?_ (yap HI0.out))) hb); replace HI0 := yaa (IsS77.below (by repeat (with_reducible first | exact HI0.out | apply yac | apply yad | apply yag | apply yae)) hb); clear hb b9) | (go_at_call 27; (with_reducible refine (spec_l20Rd_pick.calls k g s0_0 b1 8 a5 b0 w0 _ ?side1 ?side2 A5.out).mono ?_); (case side1 => repeat (with_reducible first | exact HI0.out | apply yac | apply yad | apply yag | apply yae)); (case side2 => repeat (with_reducible first | exact HB.out | apply yak | apply yaf | apply yal | refine yao ?_ (yap HI0.out))); rintro e w20 ⟨rfl, hi, hb, hk⟩; replace a4 := yaa (Kd.R_mono (Kd.R_keep (yas (show IsS77 w0 _ g s0_0 b1 from by repeat (with_reducible first | exact HI0.out | apply yac | apply yad | apply yag | apply yae)) (upR a4.out) (by decide)) hk (fun _ h => h.2)) (fun _ h => h.1)); replace HK := yaa (yaj (by repeat (with_reducible first | exact HK.out | apply yab | apply yah | apply yam | apply yai)) hk (.inl rfl)); replace HB := yaa (hb); replace HI0 := yaa (hi); (try clear hb hk hi); obtain ⟨h4, h5, e2⟩ := Kd.R_slice a4.out; subst e2; have p110 : 0 ≤ (a5 : Int) := of_decide_eq_true (by assumption); have q110 : a5 < (y105.length : Int) := of_decide_eq_true (by assumption); obtain ⟨ad110, b4, b2⟩ := Kd.at_int (Kd.R_reads' a4.out).2.2 a5 p110 q110; cases b4; replace p110 := eq_true p110; replace q110 := eq_true q110) | ((with_reducible refine gd_ 20 rfl ?_); refine Kd.R_lit (yaq .u8) _ 5 ?hg (N := 20) ?hd (xs := ([(rd y105 a5) % 256] : List Int)) (inner := [.int .u8 ((rd y105 a5) % 256)]) (ok := fun _ => True) (okp := fun _ => True) ?hr ?hp (fun _ hk => hk) trivial (Below.refl _ _) (Nat.le_refl _) (by simp) ?_; (case hd => rfl); (case hg => rfl); (case hr => first | (go_simp; done) | (go_simp; rfl)); (case hp => exact (yan (show Kd.M (yaq .u8) _ _ _ ((rd y105 a5) % 256) [.int .u8 ((rd y105 a5) % 256)] from rfl) (Reps.none _ _))); intro d4 w22 c0 hb hg_ hnew_; clear hg_ hnew_; (first | rw [← Ny111.out] at c0 | (simp only [Int.reduceToNat] at c0; rw [← Ny111.out] at c0)); replace a4 := yaa (Kd.R_below (upR a4.out) hb); have a7 := yaa (Kd.R_lower c0 (keep_size (w := w) (g := g) (row := none) (by repeat (with_reducible first | exact HK.out | apply yab | apply yah | apply yam | apply yai)))); replace HK := yaa (yaj (by repeat (with_reducible first | exact HK.out | apply yab | apply yah | apply yam | apply yai)) (yar hb g none) (.inl rfl)); replace HB := yaa (below_step (by repeat (with_reducible first | exact HB.out | apply yak | apply yaf | apply yal | refine yao ?_ (yap HI0.out))) hb); replace HI0 := yaa (IsS77.below (by repeat (with_reducible first | exact HI0.out | apply yac | apply yad | apply yag | apply yae)) hb); clear hb c0; have hcv24 := own_string (P := Tryz.prog) Tryz.underlying22 Tryz.underlying5 Tryz.underlying9 (Kd.own_of_R a7.out)) | (go_at_call 27; (with_reducible refine (spec_l20Rd_pick.calls k g s0_0 b0 3 b5 b6 w0 _ ?side1 ?side2 A8.out).mono ?_); (case side1 => repeat (with_reducible first | exact HI0.out | apply yac | apply yad | apply yag | apply yae)); (case side2 => repeat (with_reducible first | exact HB.out | apply yak | apply yaf | apply yal | refine yao ?_ (yap HI0.out))); rintro e w25 ⟨rfl, hi, hb, hk⟩; replace a4 := yaa (Kd.R_mono (Kd.R_keep (yas (show IsS77 w0 _ g s0_0 b0 from by repeat (with_reducible first | exact HI0.out | apply yac | apply yad | apply yag | apply yae)) (upR a4.out) (by decide)) hk (fun _ h => h.2)) (fun _ h => h.1)); replace a7 := yaa (Kd.R_mono (Kd.R_keep (yas (show IsS77 w0 _ g s0_0 b0 from by repeat (with_reducible first | exact HI0.out | apply yac | apply yad | apply yag | apply yae)) (upR a7.out) (by decide)) hk (fun _ h => h.2)) (fun _ h => h.1)); replace HK := yaa (yaj (by repeat (with_reducible first | exact HK.out | apply yab | apply yah | apply yam | apply yai)) hk (.inl rfl)); replace HB := yaa (hb); replace HI0 := yaa (hi); (try clear hb hk hi)))
    repeat (go_quiet (fail); try go_wp2)
    go_ret
    exact ⟨by first | rfl | (simp [*, errW_none, errW_some] <;> rfl), by repeat (with_reducible first | exact HI0.out | apply yac | apply yad | apply yag | apply yae), by repeat (with_reducible first | exact HB.out | apply yak | apply yaf | apply yal | refine yao ?_ (yap HI0.out)), by repeat (with_reducible first | exact HK.out | apply yab | apply yah | apply yam | apply yai)⟩
   rw [if_neg c15] at H
   exact absurd H (by simp)
  rw [if_neg c12] at H
  exact absurd H (by simp)
 rw [if_neg c9] at H
 have e0 := beq_eq_false_iff_ne.mpr c9; have e1 := bne_iff_ne.mpr c9
 by_cases c26 : b5 = 1
 ·
  rw [if_pos c26] at H
  have d6 := beq_iff_eq.mpr c26; have d7 := bne_eq_false_iff_eq.mpr c26; clear c26
  by_cases c27 : a3 < (a1.size : Int)
  rotate_left
  ·
   rw [if_neg c27] at H
   have d8 : decide (a3 < (a1.size : Int)) = false := decide_eq_false c27; clear c27
   simp only [Option.some.injEq, Prod.mk.injEq] at H
   obtain ⟨rfl, rfl⟩ := H
   go_enter Tryz.func28, Tryz.ntmps28
   go_wp2_with (first | (go_at_call 27; (with_reducible refine (spec_l20Rd_pick.calls k g s0_0 s0_1 (wrap64 ((a1.size : Int) + 1)) a3 b3 w0 _ ?side1 ?side2 A3.out).mono ?_); (case side1 => repeat (with_reducible first | exact HI0.out | apply yac | apply yad | apply yag | apply yae)); (case side2 => repeat (with_reducible first | exact HB.out | apply yak | apply yaf | apply yal | refine yao ?_ (yap HI0.out))); rintro e w44 ⟨rfl, hi, hb, hk⟩; replace HK := yaa (yaj (by repeat (with_reducible first | exact HK.out | apply yab | apply yah | apply yam | apply yai)) hk (.inl rfl)); replace HB := yaa (hb); replace HI0 := yaa (hi); (try clear hb hk hi)) | (go_at_call 27; (with_reducible refine (spec_l20Rd_pick.calls k g s0_0 b3 256 a8 b1 w0 _ ?side1 ?side2 A4.out).mono ?_); (case side1 => repeat (with_reducible first | exact HI0.out | apply yac | apply yad | apply yag | apply yae)); (case side2 => repeat (with_reducible first | exact HB.out | apply yak | apply yaf | apply yal | refine yao ?_ (yap HI0.out))); rintro e w45 ⟨rfl, hi, hb, hk⟩; replace HK := yaa (yaj (by repeat (with_reducible first | exact HK.out | apply yab | apply yah | apply yam | apply yai)) hk (.inl rfl)); replace HB := yaa (hb); replace HI0 := yaa (hi); (try clear hb hk hi)) | ((with_reducible refine gd_ 14 rfl ?_); refine Kd.R_lit (yaq .i64) _ 3 ?hg (N := 14) ?hd (xs := ([32, 48, 49, 57, 47, 46, 97, a8] : List Int)) (inner := [.int .i64 32, .int .i64 48, .int .i64 49, .int .i64 57, .int .i64 47, .int .i64 46, .int .i64 97, .int .i64 a8]) (ok := fun _ => True) (okp := fun _ => True) ?hr ?hp (fun _ hk => hk) trivial (Below.refl _ _) (Nat.le_refl _) (by simp) ?_; (case hd => rfl); (case hg => rfl); (case hr => first | (go_simp; done) | (go_simp; rfl)); (case hp => exact (yan (show Kd.M (yaq .i64) _ _ _ 32 [.int .i64 32] from rfl) (yan (show Kd.M (yaq .i64) _ _ _ 48 [.int .i64 48] from rfl) (yan (show Kd.M (yaq .i64) _ _ _ 49 [.int .i64 49] from rfl) (yan (show Kd.M (yaq .i64) _ _ _ 57 [.int .i64 57] from rfl) (yan (show Kd.M (yaq .i64) _ _ _ 47 [.int .i64 47] from rfl) (yan (show Kd.M (yaq .i64) _ _ _ 46 [.int .i64 46] from rfl) (yan (show Kd.M (yaq .i64) _ _ _ 97 [.int .i64 97] from rfl) (yan (show Kd.M (yaq .i64) _ _ _ a8 [.int .i64 a8] from rfl) (Reps.none _ _)))))))))); intro d3 w46 c3 hb hg_ hnew_; clear hg_ hnew_; (first | rw [← Ny105.out] at c3 | (simp only [Int.reduceToNat] at c3; rw [← Ny105.out] at c3)); have a4 := yaa (Kd.R_lower c3 (keep_size (w := w) (g := g) (row := none) (by repeat (with_reducible first | exact HK.out | apply yab | apply yah | apply yam | apply yai)))); replace HK := yaa (yaj (by repeat (with_reducible first | exact HK.out | apply yab | apply yah | apply yam | apply yai)) (yar hb g none) (.inl rfl)); replace HB := yaa (below_step (by repeat (with_reducible first | exact HB.out | apply yak | apply yaf | apply yal | refine yao ?_ (yap HI0.out))) hb); replace HI0 := yaa (IsS77.below (by repeat (with_reducible first | exact HI0.out | apply yac | apply yad | apply yag | apply yae)) hb); clear hb c3) | (go_at_call 27; (with_reducible refine (spec_l20Rd_pick.calls k g s0_0 b1 8 a5 b0 w0 _ ?side1 ?side2 A5.out).mono ?_); (case side1 => repeat (with_reducible first | exact HI0.out | apply yac | apply yad | apply yag | apply yae)); (case side2 => repeat (with_reducible first | exact HB.out | apply yak | apply yaf | apply yal | refine yao ?_ (yap HI0.out))); rintro e w48 ⟨rfl, hi, hb, hk⟩; replace a4 := yaa (Kd.R_mono (Kd.R_keep (yas (show IsS77 w0 _ g s0_0 b1 from by repeat (with_reducible first | exact HI0.out | apply yac | apply yad | apply yag | apply yae)) (upR a4.out) (by decide)) hk (fun _ h => h.2)) (fun _ h => h.1)); replace HK := yaa (yaj (by repeat (with_reducible first | exact HK.out | apply yab | apply yah | apply yam | apply yai)) hk (.inl rfl)); replace HB := yaa (hb); replace HI0 := yaa (hi); (try clear hb hk hi); obtain ⟨h8, h9, e4⟩ := Kd.R_slice a4.out; subst e4; have p110 : 0 ≤ (a5 : Int) := of_decide_eq_true (by assumption); have q110 : a5 < (y105.length : Int) := of_decide_eq_true (by assumption); obtain ⟨ad110, b4, b2⟩ := Kd.at_int (Kd.R_reads' a4.out).2.2 a5 p110 q110; cases b4; replace p110 := eq_true p110; replace q110 := eq_true q110) | ((with_reducible refine gd_ 20 rfl ?_); refine Kd.R_lit (yaq .u8) _ 5 ?hg (N := 20) ?hd (xs := ([(rd y105 a5) % 256] : List Int)) (inner := [.int .u8 ((rd y105 a5) % 256)]) (ok := fun _ => True) (okp := fun _ => True) ?hr ?hp (fun _ hk => hk) trivial (Below.refl _ _) (Nat.le_refl _) (by simp) ?_; (case hd => rfl); (case hg => rfl); (case hr => first | (go_simp; done) | (go_simp; rfl)); (case hp => exact (yan (show Kd.M (yaq .u8) _ _ _ ((rd y105 a5) % 256) [.int .u8 ((rd y105 a5) % 256)] from rfl) (Reps.none _ _))); intro d4 w50 c4 hb hg_ hnew_; clear hg_ hnew_; (first | rw [← Ny111.out] at c4 | (simp only [Int.reduceToNat] at c4; rw [← Ny111.out] at c4)); replace a4 := yaa (Kd.R_below (upR a4.out) hb); have a7 := yaa (Kd.R_lower c4 (keep_size (w := w) (g := g) (row := none) (by repeat (with_reducible first | exact HK.out | apply yab | apply yah | apply yam | apply yai)))); replace HK := yaa (yaj (by repeat (with_reducible first | exact HK.out | apply yab | apply yah | apply yam | apply yai)) (yar hb g none) (.inl rfl)); replace HB := yaa (below_step (by repeat (with_reducible first | exact HB.out | apply yak | apply yaf | apply yal | refine yao ?_ (yap HI0.out))) hb); replace HI0 := yaa (IsS77.below (by repeat (with_reducible first | exact HI0.out | apply yac | apply yad | apply yag | apply yae)) hb); clear hb c4; have hcv52 := own_string (P := Tryz.prog) Tryz.underlying22 Tryz.underlying5 Tryz.underlying9 (Kd.own_of_R a7.out)) | (go_at_call 27; (with_reducible refine (spec_l20Rd_pick.calls k g s0_0 b0 3 b5 b6 w0 _ ?side1 ?side2 A8.out).mono ?_); (case side1 => repeat (with_reducible first | exact HI0.out | apply yac | apply yad | apply yag | apply yae)); (case side2 => repeat (with_reducible first | exact HB.out | apply yak | apply yaf | apply yal | refine yao ?_ (yap HI0.out))); rintro e w53 ⟨rfl, hi, hb, hk⟩; replace a4 := yaa (Kd.R_mono (Kd.R_keep (yas (show IsS77 w0 _ g s0_0 b0 from by repeat (with_reducible first | exact HI0.out | apply yac | apply yad | apply yag | apply yae)) (upR a4.out) (by decide)) hk (fun _ h => h.2)) (fun _ h => h.1)); replace a7 := yaa (Kd.R_mono (Kd.R_keep (yas (show IsS77 w0 _ g s0_0 b0 from by repeat (with_reducible first | exact HI0.out | apply yac | apply yad | apply yag | apply yae)) (upR a7.out) (by decide)) hk (fun _ h => h.2)) (fun _ h => h.1)); replace HK := yaa (yaj (by repeat (with_reducible first | exact HK.out | apply yab | apply yah | apply yam | apply yai)) hk (.inl rfl)); replace HB := yaa (hb); replace HI0 := yaa (hi); (try clear hb hk hi)))
   repeat (go_quiet (fail); try go_wp2)
   go_ret
   exact ⟨by first | rfl | (simp [*, errW_none, errW_some] <;> rfl), by repeat (with_reducible first | exact HI0.out | apply yac | apply yad | apply yag | apply yae), by repeat (with_reducible first | exact HB.out | apply yak | apply yaf | apply yal | refine yao ?_ (yap HI0.out)), by repeat (with_reducible first | exact HK.out | apply yab | apply yah | apply yam | apply yai)⟩
  rw [if_pos c27] at H
  have d8 : decide (a3 < (a1.size : Int)) = true := decide_eq_true c27; clear c27
  by_cases c28 : 0 ≤ a3
  rotate_left
  ·
   rw [if_neg c28] at H
   exact absurd H (by simp)
  rw [if_pos c28] at H
  have f7 := eq_true c28; replace c28 := decide_eq_true c28
  by_cases c29 : a3 ≤ (a1.size : Int)
  rotate_left
  ·
   rw [if_neg c29] at H
   exact absurd H (by simp)
  rw [if_pos c29] at H
  have f8 := eq_true c29; replace c29 := decide_eq_true c29; obtain ⟨ji30, hji30⟩ : ∃ j_ : Int, (wrap64 (a3 + 1)) = j_ := ⟨_, rfl⟩
  replace H : (if 0 ≤ (ji30) then (if (ji30) ≤ (a1.size : Int) then (if (a1.extract 0 (a3 : Int).toNat).size + (a1.extract ((ji30) : Int).toNat a1.size).size ≤ 9223372036854775807 then (some ((a1.extract 0 (a3 : Int).toNat) ++ (a1.extract ((ji30) : Int).toNat a1.size), b6)) else (none)) else (none)) else (none)) = some (r1, r2) := by first | (rw [hji30] at H; exact H) | (simp only [hji30] at H ⊢; exact H)
  (try rw [hji30] at A3)
  (try rw [hji30] at A4)
  (try rw [hji30] at A5)
  (try rw [hji30] at A8)
  have hji30w : (IntKind.i64.wrap (a3 + 1)) = ji30 := (i64_w _).trans hji30
  by_cases c31 : 0 ≤ (ji30)
  ·
   rw [if_pos c31] at H
   have f9 := eq_true c31; replace c31 := decide_eq_true c31
   by_cases c32 : (ji30) ≤ (a1.size : Int)
   ·
    rw [if_pos c32] at H
    have g0 := eq_true c32; replace c32 := decide_eq_true c32
    by_cases c33 : (a1.extract 0 (a3 : Int).toNat).size + (a1.extract ((ji30) : Int).toNat a1.size).size ≤ 9223372036854775807
    ·
     rw [if_pos c33] at H
     have g1 := eq_true c33; have g2 : decide ((a1.extract 0 (a3 : Int).toNat).size + (a1.extract ((ji30) : Int).toNat a1.size).size ≤ 9223372036854775807) = true := decide_eq_true c33
     try have g3 : (9223372036854775807 < (a1.extract 0 (a3 : Int).toNat).size + (a1.extract ((ji30) : Int).toNat a1.size).size) = False := eq_false (Nat.not_lt.2 c33)
     simp only [Option.some.injEq, Prod.mk.injEq] at H
     obtain ⟨rfl, rfl⟩ := H
     go_enter Tryz.func28, Tryz.ntmps28
     go_wp2_with (first | (go_at_call 27; (with_reducible refine (spec_l20Rd_pick.calls k g s0_0 s0_1 (wrap64 ((a1.size : Int) + 1)) a3 b3 w0 _ ?side1 ?side2 A3.out).mono ?_); (case side1 => repeat (with_reducible first | exact HI0.out | apply yac | apply yad | apply yag | apply yae)); (case side2 => repeat (with_reducible first | exact HB.out | apply yak | apply yaf | apply yal | refine yao ?_ (yap HI0.out))); rintro e w34 ⟨rfl, hi, hb, hk⟩; replace HK := yaa (yaj (by repeat (with_reducible first | exact HK.out | apply yab | apply yah | apply yam | apply yai)) hk (.inl rfl)); replace HB := yaa (hb); replace HI0 := yaa (hi); (try clear hb hk hi)) | (go_at_call 27; (with_reducible refine (spec_l20Rd_pick.calls k g s0_0 b3 256 a8 b1 w0 _ ?side1 ?side2 A4.out).mono ?_); (case side1 => repeat (with_reducible first | exact HI0.out | apply yac | apply yad | apply yag | apply yae)); (case side2 => repeat (with_reducible first | exact HB.out | apply yak | apply yaf | apply yal | refine yao ?_ (yap HI0.out))); rintro e w35 ⟨rfl, hi, hb, hk⟩; replace HK := yaa (yaj (by repeat (with_reducible first | exact HK.out | apply yab | apply yah | apply yam | apply yai)) hk (.inl rfl)); replace HB := yaa (hb); replace HI0 := yaa (hi); (try clear hb hk hi)) | ((with_reducible refine gd_ 14 rfl ?_); refine Kd.R_lit (yaq .i64) _ 3 ?hg (N := 14) ?hd (xs := ([32, 48, 49, 57, 47, 46, 97, a8] : List Int)) (inner := [.int .i64 32, .int .i64 48, .int .i64 49, .int .i64 57, .int .i64 47, .int .i64 46, .int .i64 97, .int .i64 a8]) (ok := fun _ => True) (okp := fun _ => True) ?hr ?hp (fun _ hk => hk) trivial (Below.refl _ _) (Nat.le_refl _) (by simp) ?_; (case hd => rfl); (case hg => rfl); (case hr => first | (go_simp; done) | (go_simp; rfl)); (case hp => exact (yan (show Kd.M (yaq .i64) _ _ _ 32 [.int .i64 32] from rfl) (yan (show Kd.M (yaq .i64) _ _ _ 48 [.int .i64 48] from rfl) (yan (show Kd.M (yaq .i64) _ _ _ 49 [.int .i64 49] from rfl) (yan (show Kd.M (yaq .i64) _ _ _ 57 [.int .i64 57] from rfl) (yan (show Kd.M (yaq .i64) _ _ _ 47 [.int .i64 47] from rfl) (yan (show Kd.M (yaq .i64) _ _ _ 46 [.int .i64 46] from rfl) (yan (show Kd.M (yaq .i64) _ _ _ 97 [.int .i64 97] from rfl) (yan (show Kd.M (yaq .i64) _ _ _ a8 [.int .i64 a8] from rfl) (Reps.none _ _)))))))))); intro d3 w36 c1 hb hg_ hnew_; clear hg_ hnew_; (first | rw [← Ny105.out] at c1 | (simp only [Int.reduceToNat] at c1; rw [← Ny105.out] at c1)); have a4 := yaa (Kd.R_lower c1 (keep_size (w := w) (g := g) (row := none) (by repeat (with_reducible first | exact HK.out | apply yab | apply yah | apply yam | apply yai)))); replace HK := yaa (yaj (by repeat (with_reducible first | exact HK.out | apply yab | apply yah | apply yam | apply yai)) (yar hb g none) (.inl rfl)); replace HB := yaa (below_step (by repeat (with_reducible first | exact HB.out | apply yak | apply yaf | apply yal | refine yao ?_ (yap HI0.out))) hb); replace HI0 := yaa (IsS77.below (by repeat (with_reducible first | exact HI0.out | apply yac | apply yad | apply yag | apply yae)) hb); clear hb c1) | (go_at_call 27; (with_reducible refine (spec_l20Rd_pick.calls k g s0_0 b1 8 a5 b0 w0 _ ?side1 ?side2 A5.out).mono ?_); (case side1 => repeat (with_reducible first | exact HI0.out | apply yac | apply yad | apply yag | apply yae)); (case side2 => repeat (with_reducible first | exact HB.out | apply yak | apply yaf | apply yal | refine yao ?_ (yap HI0.out))); rintro e w38 ⟨rfl, hi, hb, hk⟩; replace a4 := yaa (Kd.R_mono (Kd.R_keep (yas (show IsS77 w0 _ g s0_0 b1 from by repeat (with_reducible first | exact HI0.out | apply yac | apply yad | apply yag | apply yae)) (upR a4.out) (by decide)) hk (fun _ h => h.2)) (fun _ h => h.1)); replace HK := yaa (yaj (by repeat (with_reducible first | exact HK.out | apply yab | apply yah | apply yam | apply yai)) hk (.inl rfl)); replace HB := yaa (hb); replace HI0 := yaa (hi); (try clear hb hk hi); obtain ⟨h6, h7, e3⟩ := Kd.R_slice a4.out; subst e3; have p110 : 0 ≤ (a5 : Int) := of_decide_eq_true (by assumption); have q110 : a5 < (y105.length : Int) := of_decide_eq_true (by assumption); obtain ⟨ad110, b4, b2⟩ := Kd.at_int (Kd.R_reads' a4.out).2.2 a5 p110 q110; cases b4; replace p110 := eq_true p110; replace q110 := eq_true q110) | ((with_reducible refine gd_ 20 rfl ?_); refine Kd.R_lit (yaq .u8) _ 5 ?hg (N := 20) ?hd (xs := ([(rd y105 a5) % 256] : List Int)) (inner := [.int .u8 ((rd y105 a5) % 256)]) (ok := fun _ => True) (okp := fun _ => True) ?hr ?hp (fun _ hk => hk) trivial (Below.refl _ _) (Nat.le_refl _) (by simp) ?_; (case hd => rfl); (case hg => rfl); (case hr => first | (go_simp; done) | (go_simp; rfl)); (case hp => exact (yan (show Kd.M (yaq .u8) _ _ _ ((rd y105 a5) % 256) [.int .u8 ((rd y105 a5) % 256)] from rfl) (Reps.none _ _))); intro d4 w40 c2 hb hg_ hnew_; clear hg_ hnew_; (first | rw [← Ny111.out] at c2 | (simp only [Int.reduceToNat] at c2; rw [← Ny111.out] at c2)); replace a4 := yaa (Kd.R_below (upR a4.out) hb); have a7 := yaa (Kd.R_lower c2 (keep_size (w := w) (g := g) (row := none) (by repeat (with_reducible first | exact HK.out | apply yab | apply yah | apply yam | apply yai)))); replace HK := yaa (yaj (by repeat (with_reducible first | exact HK.out | apply yab | apply yah | apply yam | apply yai)) (yar hb g none) (.inl rfl)); replace HB := yaa (below_step (by repeat (with_reducible first | exact HB.out | apply yak | apply yaf | apply yal | refine yao ?_ (yap HI0.out))) hb); replace HI0 := yaa (IsS77.below (by repeat (with_reducible first | exact HI0.out | apply yac | apply yad | apply yag | apply yae)) hb); clear hb c2; have hcv42 := own_string (P := Tryz.prog) Tryz.underlying22 Tryz.underlying5 Tryz.underlying9 (Kd.own_of_R a7.out)) | (go_at_call 27; (with_reducible refine (spec_l20Rd_pick.calls k g s0_0 b0 3 b5 b6 w0 _ ?side1 ?side2 A8.out).mono ?_); (case side1 => repeat (with_reducible first | exact HI0.out | apply yac | apply yad | apply yag | apply yae)); (case side2 => repeat (with_reducible first | exact HB.out | apply yak | apply yaf | apply yal | refine yao ?_ (yap HI0.out))); rintro e w43 ⟨rfl, hi, hb, hk⟩; replace a4 := yaa (Kd.R_mono (Kd.R_keep (yas (show IsS77 w0 _ g s0_0 b0 from by repeat (with_reducible first | exact HI0.out | apply yac | apply yad | apply yag | apply yae)) (upR a4.out) (by decide)) hk (fun _ h => h.2)) (fun _ h => h.1)); replace a7 := yaa (Kd.R_mono (Kd.R_keep (yas (show IsS77 w0 _ g s0_0 b0 from by repeat (with_reducible first | exact HI0.out | apply yac | apply yad | apply yag | apply yae)) (upR a7.out) (by decide)) hk (fun _ h => h.2)) (fun _ h => h.1)); replace HK := yaa (yaj (by repeat (with_reducible first | exact HK.out | apply yab | apply yah | apply yam | apply yai)) hk (.inl rfl)); replace HB := yaa (hb); replace HI0 := yaa (hi); (try clear hb hk hi)))
     repeat (go_quiet (fail); try go_wp2)
     go_ret
     exact ⟨by first | rfl | (simp [errW_none, errW_some] <;> rfl) | (simp only [← hji30]; first | rfl | (simp [errW_none, errW_some] <;> rfl)) | (simp [*, errW_none, errW_some] <;> rfl), by repeat (with_reducible first | exact HI0.out | apply yac | apply yad | apply yag | apply yae), by repeat (with_reducible first | exact HB.out | apply yak | apply yaf | apply yal | refine yao ?_ (yap HI0.out)), by repeat (with_reducible first | exact HK.out | apply yab | apply yah | apply yam | apply yai)⟩
    rw [if_neg c33] at H
    exact absurd H (by simp)
   rw [if_neg c32] at H
   exact absurd H (by simp)
  rw [if_neg c31] at H
  exact absurd H (by simp)
 rw [if_neg c26] at H
 have d6 := beq_eq_false_iff_ne.mpr c26; have d7 := bne_iff_ne.mpr c26
 by_cases c54 : a3 < (a1.size : Int)
 rotate_left
 ·
  rw [if_neg c54] at H
  have d9 : decide (a3 < (a1.size : Int)) = false := decide_eq_false c54; clear c54
  simp only [Option.some.injEq, Prod.mk.injEq] at H
  obtain ⟨rfl, rfl⟩ := H
  go_enter Tryz.func28, Tryz.ntmps28
  go_wp2_with (first | (go_at_call 27; (with_reducible refine (spec_l20Rd_pick.calls k g s0_0 s0_1 (wrap64 ((a1.size : Int) + 1)) a3 b3 w0 _ ?side1 ?side2 A3.out).mono ?_); (case side1 => repeat (with_reducible first | exact HI0.out | apply yac | apply yad | apply yag | apply yae)); (case side2 => repeat (with_reducible first | exact HB.out | apply yak | apply yaf | apply yal | refine yao ?_ (yap HI0.out))); rintro e w72 ⟨rfl, hi, hb, hk⟩; replace HK := yaa (yaj (by repeat (with_reducible first | exact HK.out | apply yab | apply yah | apply yam | apply yai)) hk (.inl rfl)); replace HB := yaa (hb); replace HI0 := yaa (hi); (try clear hb hk hi)) | (go_at_call 27; (with_reducible refine (spec_l20Rd_pick.calls k g s0_0 b3 256 a8 b1 w0 _ ?side1 ?side2 A4.out).mono ?_); (case side1 => repeat (with_reducible first | exact HI0.out | apply yac | apply yad | apply yag | apply yae)); (case side2 => repeat (with_reducible first | exact HB.out | apply yak | apply yaf | apply yal | refine yao ?_ (yap HI0.out))); rintro e w73 ⟨rfl, hi, hb, hk⟩; replace HK := yaa (yaj (by repeat (with_reducible first | exact HK.out | apply yab | apply yah | apply yam | apply yai)) hk (.inl rfl)); replace HB := yaa (hb); replace HI0 := yaa (hi); (try clear hb hk hi)) | ((with_reducible refine gd_ 14 rfl ?_); refine Kd.R_lit (yaq .i64) _ 3 ?hg (N := 14) ?hd (xs := ([32, 48, 49, 57, 47, 46, 97, a8] : List Int)) (inner := [.int .i64 32, .int .i64 48, .int .i64 49, .int .i64 57, .int .i64 47, .int .i64 46, .int .i64 97, .int .i64 a8]) (ok := fun _ => True) (okp := fun _ => True) ?hr ?hp (fun _ hk => hk) trivial (Below.refl _ _) (Nat.le_refl _) (by simp) ?_; (case hd => rfl); (case hg => rfl); (case hr => first | (go_simp; done) | (go_simp; rfl)); (case hp => exact (yan (show Kd.M (yaq .i64) _ _ _ 32 [.int .i64 32] from rfl) (yan (show Kd.M (yaq .i64) _ _ _ 48 [.int .i64 48] from rfl) (yan (show Kd.M (yaq .i64) _ _ _ 49 [.int .i64 49] from rfl) (yan (show Kd.M (yaq .i64) _ _ _ 57 [.int .i64 57] from rfl) (yan (show Kd.M (yaq .i64) _ _ _ 47 [.int .i64 47] from rfl) (yan (show Kd.M (yaq .i64) _ _ _ 46 [.int .i64 46] from rfl) (yan (show Kd.M (yaq .i64) _ _ _ 97 [.int .i64 97] from rfl) (yan (show Kd.M (yaq .i64) _ _ _ a8 [.int .i64 a8] from rfl) (Reps.none _ _)))))))))); intro d3 w74 d1 hb hg_ hnew_; clear hg_ hnew_; (first | rw [← Ny105.out] at d1 | (simp only [Int.reduceToNat] at d1; rw [← Ny105.out] at d1)); have a4 := yaa (Kd.R_lower d1 (keep_size (w := w) (g := g) (row := none) (by repeat (with_reducible first | exact HK.out | apply yab | apply yah | apply yam | apply yai)))); replace HK := yaa (yaj (by repeat (with_reducible first | exact HK.out | apply yab | apply yah | apply yam | apply yai)) (yar hb g none) (.inl rfl)); replace HB := yaa (below_step (by repeat (with_reducible first | exact HB.out | apply yak | apply yaf | apply yal | refine yao ?_ (yap HI0.out))) hb); replace HI0 := yaa (IsS77.below (by repeat (with_reducible first | exact HI0.out | apply yac | apply yad | apply yag | apply yae)) hb); clear hb d1) | (go_at_call 27; (with_reducible refine (spec_l20Rd_pick.calls k g s0_0 b1 8 a5 b0 w0 _ ?side1 ?side2 A5.out).mono ?_); (case side1 => repeat (with_reducible first | exact HI0.out | apply yac | apply yad | apply yag | apply yae)); (case side2 => repeat (with_reducible first | exact HB.out | apply yak | apply yaf | apply yal | refine yao ?_ (yap HI0.out))); rintro e w76 ⟨rfl, hi, hb, hk⟩; replace a4 := yaa (Kd.R_mono (Kd.R_keep (yas (show IsS77 w0 _ g s0_0 b1 from by repeat (with_reducible first | exact HI0.out | apply yac | apply yad | apply yag | apply yae)) (upR a4.out) (by decide)) hk (fun _ h => h.2)) (fun _ h => h.1)); replace HK := yaa (yaj (by repeat (with_reducible first | exact HK.out | apply yab | apply yah | apply yam | apply yai)) hk (.inl rfl)); replace HB := yaa (hb); replace HI0 := yaa (hi); (try clear hb hk hi); obtain ⟨i2, i3, e6⟩ := Kd.R_slice a4.out; subst e6; have p110 : 0 ≤ (a5 : Int) := of_decide_eq_true (by assumption); have q110 : a5 < (y105.length : Int) := of_decide_eq_true (by assumption); obtain ⟨ad110, b4, b2⟩ := Kd.at_int (Kd.R_reads' a4.out).2.2 a5 p110 q110; cases b4; replace p110 := eq_true p110; replace q110 := eq_true q110) | ((with_reducible refine gd_ 20 rfl ?_); refine Kd.R_lit (yaq .u8) _ 5 ?hg (N := 20) ?hd (xs := ([(rd y105 a5) % 256] : List Int)) (inner := [.int .u8 ((rd y105 a5) % 256)]) (ok := fun _ => True) (okp := fun _ => True) ?hr ?hp (fun _ hk => hk) trivial (Below.refl _ _) (Nat.le_refl _) (by simp) ?_; (case hd => rfl); (case hg => rfl); (case hr => first | (go_simp; done) | (go_simp; rfl)); (case hp => exact (yan (show Kd.M (yaq .u8) _ _ _ ((rd y105 a5) % 256) [.int .u8 ((rd y105 a5) % 256)] from rfl) (Reps.none _ _))); intro d4 w78 d2 hb hg_ hnew_; clear hg_ hnew_; (first | rw [← Ny111.out] at d2 | (simp only [Int.reduceToNat] at d2; rw [← Ny111.out] at d2)); replace a4 := yaa (Kd.R_below (upR a4.out) hb); have a7 := yaa (Kd.R_lower d2 (keep_size (w := w) (g := g) (row := none) (by repeat (with_reducible first | exact HK.out | apply yab | apply yah | apply yam | apply yai)))); replace HK := yaa (yaj (by repeat (with_reducible first | exact HK.out | apply yab | apply yah | apply yam | apply yai)) (yar hb g none) (.inl rfl)); replace HB := yaa (below_step (by repeat (with_reducible first | exact HB.out | apply yak | apply yaf | apply yal | refine yao ?_ (yap HI0.out))) hb); replace HI0 := yaa (IsS77.below (by repeat (with_reducible first | exact HI0.out | apply yac | apply yad | apply yag | apply yae)) hb); clear hb d2; have hcv80 := own_string (P := Tryz.prog) Tryz.underlying22 Tryz.underlying5 Tryz.underlying9 (Kd.own_of_R a7.out)) | (go_at_call 27; (with_reducible refine (spec_l20Rd_pick.calls k g s0_0 b0 3 b5 b6 w0 _ ?side1 ?side2 A8.out).mono ?_); (case side1 => repeat (with_reducible first | exact HI0.out | apply yac | apply yad | apply yag | apply yae)); (case side2 => repeat (with_reducible first | exact HB.out | apply yak | apply yaf | apply yal | refine yao ?_ (yap HI0.out))); rintro e w81 ⟨rfl, hi, hb, hk⟩; replace a4 := yaa (Kd.R_mono (Kd.R_keep (yas (show IsS77 w0 _ g s0_0 b0 from by repeat (with_reducible first | exact HI0.out | apply yac | apply yad | apply yag | apply yae)) (upR a4.out) (by decide)) hk (fun _ h => h.2)) (fun _ h => h.1)); replace a7 := yaa (Kd.R_mono (Kd.R_keep (yas (show IsS77 w0 _ g s0_0 b0 from by repeat (with_reducible first | exact HI0.out | apply yac | apply yad | apply yag | apply yae)) (upR a7.out) (by decide)) hk (fun _ h => h.2)) (fun _ h => h.1)); replace HK := yaa (yaj (by repeat (with_reducible first | exact HK.out | apply yab | apply yah | apply yam | apply yai)) hk (.inl rfl)); replace HB := yaa (hb); replace HI0 := yaa (hi); (try clear hb hk hi)))
  repeat (go_quiet (fail); try go_wp2)
  go_ret
  exact ⟨by first | rfl | (simp [*, errW_none, errW_some] <;> rfl), by repeat (with_reducible first | exact HI0.out | apply yac | apply yad | apply yag | apply yae), by repeat (with_reducible first | exact HB.out | apply yak | apply yaf | apply yal | refine yao ?_ (yap HI0.out)), by repeat (with_reducible first | exact HK.out | apply yab | apply yah | apply yam | apply yai)⟩
 rw [if_pos c54] at H
 have d9 : decide (a3 < (a1.size : Int)) = true := decide_eq_true c54; clear c54
 by_cases c55 : 0 ≤ a3
 rotate_left
 ·
  rw [if_neg c55] at H
  exact absurd H (by simp)
 rw [if_pos c55] at H
 have g4 := eq_true c55; replace c55 := decide_eq_true c55
 by_cases c56 : a3 ≤ (a1.size : Int)
 rotate_left
 ·
  rw [if_neg c56] at H
  exact absurd H (by simp)
 rw [if_pos c56] at H
 have g5 := eq_true c56; replace c56 := decide_eq_true c56
 by_cases c57 : (a1.extract 0 (a3 : Int).toNat).size + (strOfNums y111).size ≤ 9223372036854775807
 rotate_left
 ·
  rw [if_neg c57] at H
  exact absurd H (by simp)
 rw [if_pos c57] at H
 have g6 := eq_true c57; have g7 : decide ((a1.extract 0 (a3 : Int).toNat).size + (strOfNums y111).size ≤ 9223372036854775807) = true := decide_eq_true c57
 try have g8 : (9223372036854775807 < (a1.extract 0 (a3 : Int).toNat).size + (strOfNums y111).size) = False := eq_false (Nat.not_lt.2 c57)
 obtain ⟨ji58, hji58⟩ : ∃ j_ : Int, (wrap64 (a3 + 1)) = j_ := ⟨_, rfl⟩
 replace H : (if 0 ≤ (ji58) then (if (ji58) ≤ (a1.size : Int) then (if ((a1.extract 0 (a3 : Int).toNat) ++ (strOfNums y111)).size + (a1.extract ((ji58) : Int).toNat a1.size).size ≤ 9223372036854775807 then (some (((a1.extract 0 (a3 : Int).toNat) ++ (strOfNums y111)) ++ (a1.extract ((ji58) : Int).toNat a1.size), b6)) else (none)) else (none)) else (none)) = some (r1, r2) := by first | (rw [hji58] at H; exact H) | (simp only [hji58] at H ⊢; exact H)
 (try rw [hji58] at A3)
 (try rw [hji58] at A4)
 (try rw [hji58] at A5)
 (try rw [hji58] at A8)
 have hji58w : (IntKind.i64.wrap (a3 + 1)) = ji58 := (i64_w _).trans hji58
 by_cases c59 : 0 ≤ (ji58)
 ·
  rw [if_pos c59] at H
  have g9 := eq_true c59; replace c59 := decide_eq_true c59
  by_cases c60 : (ji58) ≤ (a1.size : Int)
  ·
   rw [if_pos c60] at H
   have h0 := eq_true c60; replace c60 := decide_eq_true c60
   by_cases c61 : ((a1.extract 0 (a3 : Int).toNat) ++ (strOfNums y111)).size + (a1.extract ((ji58) : Int).toNat a1.size).size ≤ 9223372036854775807
   ·
    rw [if_pos c61] at H
    have h1 := eq_true c61; have h2 : decide (((a1.extract 0 (a3 : Int).toNat) ++ (strOfNums y111)).size + (a1.extract ((ji58) : Int).toNat a1.size).size ≤ 9223372036854775807) = true := decide_eq_true c61
    try have h3 : (9223372036854775807 < ((a1.extract 0 (a3 : Int).toNat) ++ (strOfNums y111)).size + (a1.extract ((ji58) : Int).toNat a1.size).size) = False := eq_false (Nat.not_lt.2 c61)
    try (have c5 := c61; simp only [ByteArray.size_append', ByteArray.size_mk', List.size_toArray, List.length_cons, List.length_nil, Nat.zero_add, Nat.reduceAdd] at c5; replace c5 := eq_false (Nat.not_lt.2 c5))
    simp only [Option.some.injEq, Prod.mk.injEq] at H
    obtain ⟨rfl, rfl⟩ := H
    go_enter Tryz.func28, Tryz.ntmps28
    go_wp2_with (first | (go_at_call 27; (with_reducible refine (spec_l20Rd_pick.calls k g s0_0 s0_1 (wrap64 ((a1.size : Int) + 1)) a3 b3 w0 _ ?side1 ?side2 A3.out).mono ?_); (case side1 => repeat (with_reducible first | exact HI0.out | apply yac | apply yad | apply yag | apply yae)); (case side2 => repeat (with_reducible first | exact HB.out | apply yak | apply yaf | apply yal | refine yao ?_ (yap HI0.out))); rintro e w62 ⟨rfl, hi, hb, hk⟩; replace HK := yaa (yaj (by repeat (with_reducible first | exact HK.out | apply yab | apply yah | apply yam | apply yai)) hk (.inl rfl)); replace HB := yaa (hb); replace HI0 := yaa (hi); (try clear hb hk hi)) | (go_at_call 27; (with_reducible refine (spec_l20Rd_pick.calls k g s0_0 b3 256 a8 b1 w0 _ ?side1 ?side2 A4.out).mono ?_); (case side1 => repeat (with_reducible first | exact HI0.out | apply yac | apply yad | apply yag | apply yae)); (case side2 => repeat (with_reducible first | exact HB.out | apply yak | apply yaf | apply yal | refine yao ?_ (yap HI0.out))); rintro e w63 ⟨rfl, hi, hb, hk⟩; replace HK := yaa (yaj (by repeat (with_reducible first | exact HK.out | apply yab | apply yah | apply yam | apply yai)) hk (.inl rfl)); replace HB := yaa (hb); replace HI0 := yaa (hi); (try clear hb hk hi)) | ((with_reducible refine gd_ 14 rfl ?_); refine Kd.R_lit (yaq .i64) _ 3 ?hg (N := 14) ?hd (xs := ([32, 48, 49, 57, 47, 46, 97, a8] : List Int)) (inner := [.int .i64 32, .int .i64 48, .int .i64 49, .int .i64 57, .int .i64 47, .int .i64 46, .int .i64 97, .int .i64 a8]) (ok := fun _ => True) (okp := fun _ => True) ?hr ?hp (fun _ hk => hk) trivial (Below.refl _ _) (Nat.le_refl _) (by simp) ?_; (case hd => rfl); (case hg => rfl); (case hr => first | (go_simp; done) | (go_simp; rfl)); (case hp => exact (yan (show Kd.M (yaq .i64) _ _ _ 32 [.int .i64 32] from rfl) (yan (show Kd.M (yaq .i64) _ _ _ 48 [.int .i64 48] from rfl) (yan (show Kd.M (yaq .i64) _ _ _ 49 [.int .i64 49] from rfl) (yan (show Kd.M (yaq .i64) _ _ _ 57 [.int .i64 57] from rfl) (yan (show Kd.M (yaq .i64) _ _ _ 47 [.int .i64 47] from rfl) (yan (show Kd.M (yaq .i64) _ _ _ 46 [.int .i64 46] from rfl) (yan (show Kd.M (yaq .i64) _ _ _ 97 [.int .i64 97] from rfl) (yan (show Kd.M (yaq .i64) _ _ _ a8 [.int .i64 a8] from rfl) (Reps.none _ _)))))))))); intro d3 w64 c8 hb hg_ hnew_; clear hg_ hnew_; (first | rw [← Ny105.out] at c8 | (simp only [Int.reduceToNat] at c8; rw [← Ny105.out] at c8)); have a4 := yaa (Kd.R_lower c8 (keep_size (w := w) (g := g) (row := none) (by repeat (with_reducible first | exact HK.out | apply yab | apply yah | apply yam | apply yai)))); replace HK := yaa (yaj (by repeat (with_reducible first | exact HK.out | apply yab | apply yah | apply yam | apply yai)) (yar hb g none) (.inl rfl)); replace HB := yaa (below_step (by repeat (with_reducible first | exact HB.out | apply yak | apply yaf | apply yal | refine yao ?_ (yap HI0.out))) hb); replace HI0 := yaa (IsS77.below (by repeat (with_reducible first | exact HI0.out | apply yac | apply yad | apply yag | apply yae)) hb); clear hb c8) | (go_at_call 27; (with_reducible refine (spec_l20Rd_pick.calls k g s0_0 b1 8 a5 b0 w0 _ ?side1 ?side2 A5.out).mono ?_); (case side1 => repeat (with_reducible first | exact HI0.out | apply yac | apply yad | apply yag | apply yae)); (case side2 => repeat (with_reducible first | exact HB.out | apply yak | apply yaf | apply yal | refine yao ?_ (yap HI0.out))); rintro e w66 ⟨rfl, hi, hb, hk⟩; replace a4 := yaa (Kd.R_mono (Kd.R_keep (yas (show IsS77 w0 _ g s0_0 b1 from by repeat (with_reducible first | exact HI0.out | apply yac | apply yad | apply yag | apply yae)) (upR a4.out) (by decide)) hk (fun _ h => h.2)) (fun _ h => h.1)); replace HK := yaa (yaj (by repeat (with_reducible first | exact HK.out | apply yab | apply yah | apply yam | apply yai)) hk (.inl rfl)); replace HB := yaa (hb); replace HI0 := yaa (hi); (try clear hb hk hi); obtain ⟨i0, i1, e5⟩ := Kd.R_slice a4.out; subst e5; have p110 : 0 ≤ (a5 : Int) := of_decide_eq_true (by assumption); have q110 : a5 < (y105.length : Int) := of_decide_eq_true (by assumption); obtain ⟨ad110, b4, b2⟩ := Kd.at_int (Kd.R_reads' a4.out).2.2 a5 p110 q110; cases b4; replace p110 := eq_true p110; replace q110 := eq_true q110) | ((with_reducible refine gd_ 20 rfl ?_); refine Kd.R_lit (yaq .u8) _ 5 ?hg (N := 20) ?hd (xs := ([(rd y105 a5) % 256] : List Int)) (inner := [.int .u8 ((rd y105 a5) % 256)]) (ok := fun _ => True) (okp := fun _ => True) ?hr ?hp (fun _ hk => hk) trivial (Below.refl _ _) (Nat.le_refl _) (by simp) ?_; (case hd => rfl); (case hg => rfl); (case hr => first | (go_simp; done) | (go_simp; rfl)); (case hp => exact (yan (show Kd.M (yaq .u8) _ _ _ ((rd y105 a5) % 256) [.int .u8 ((rd y105 a5) % 256)] from rfl) (Reps.none _ _))); intro d4 w68 d0 hb hg_ hnew_; clear hg_ hnew_; (first | rw [← Ny111.out] at d0 | (simp only [Int.reduceToNat] at d0; rw [← Ny111.out] at d0)); replace a4 := yaa (Kd.R_below (upR a4.out) hb); have a7 := yaa (Kd.R_lower d0 (keep_size (w := w) (g := g) (row := none) (by repeat (with_reducible first | exact HK.out | apply yab | apply yah | apply yam | apply yai)))); replace HK := yaa (yaj (by repeat (with_reducible first | exact HK.out | apply yab | apply yah | apply yam | apply yai)) (yar hb g none) (.inl rfl)); replace HB := yaa (below_step (by repeat (with_reducible first | exact HB.out | apply yak | apply yaf | apply yal | refine yao ?_ (yap HI0.out))) hb); replace HI0 := yaa (IsS77.below (by repeat (with_reducible first | exact HI0.out | apply yac | apply yad | apply yag | apply yae)) hb); clear hb d0; have hcv70 := own_string (P := Tryz.prog) Tryz.underlying22 Tryz.underlying5 Tryz.underlying9 (Kd.own_of_R a7.out)) | (go_at_call 27; (with_reducible refine (spec_l20Rd_pick.calls k g s0_0 b0 3 b5 b6 w0 _ ?side1 ?side2 A8.out).mono ?_); (case side1 => repeat (with_reducible first | exact HI0.out | apply yac | apply yad | apply yag | apply yae)); (case side2 => repeat (with_reducible first | exact HB.out | apply yak | apply yaf | apply yal | refine yao ?_ (yap HI0.out))); rintro e w71 ⟨rfl, hi, hb, hk⟩; replace a4 := yaa (Kd.R_mono (Kd.R_keep (yas (show IsS77 w0 _ g s0_0 b0 from by repeat (with_reducible first | exact HI0.out | apply yac | apply yad | apply yag | apply yae)) (upR a4.out) (by decide)) hk (fun _ h => h.2)) (fun _ h => h.1)); replace a7 := yaa (Kd.R_mono (Kd.R_keep (yas (show IsS77 w0 _ g s0_0 b0 from by repeat (with_reducible first | exact HI0.out | apply yac | apply yad | apply yag | apply yae)) (upR a7.out) (by decide)) hk (fun _ h => h.2)) (fun _ h => h.1)); replace HK := yaa (yaj (by repeat (with_reducible first | exact HK.out | apply yab | apply yah | apply yam | apply yai)) hk (.inl rfl)); replace HB := yaa (hb); replace HI0 := yaa (hi); (try clear hb hk hi)))
    repeat (go_quiet (fail); try go_wp2)
    go_ret
    exact ⟨by first | rfl | (simp [errW_none, errW_some] <;> rfl) | (simp only [← hji58]; first | rfl | (simp [errW_none, errW_some] <;> rfl)) | (simp [*, errW_none, errW_some] <;> rfl), by repeat (with_reducible first | exact HI0.out | apply yac | apply yad | apply yag | apply yae), by repeat (with_reducible first | exact HB.out | apply yak | apply yaf | apply yal | refine yao ?_ (yap HI0.out)), by repeat (with_reducible first | exact HK.out | apply yab | apply yah | apply yam | apply yai)⟩
   rw [if_neg c61] at H
   exact absurd H (by simp)
  rw [if_neg c60] at H
  exact absurd H (by simp)
 rw [if_neg c59] at H
 exact absurd H (by simp)
end
end Go.Proofs.YtmplnpjdbfedbaaGreatDoor.X
