/- Lemmas and contracts for the law FnUrlWords, part 4: of the program's functions, and over data alone. Conditions: the listed package-level variables begin as the program's text lays them (tied by the card). -/
import Derived.Test.YtmplnpjdbfedbaaGreatDoorMFnUrlWords2
import Derived.Test.YtmplnpjdbfedbaaGreatDoorMFnUrlWords3
namespace Go.Proofs.YtmplnpjdbfedbaaGreatDoor.X
open Go.RowKit Go.Proofs.YtmplnpjdbfedbaaGreatDoorW.PrintWords Go.Proofs.YtmplnpjdbfedbaaGreatDoorW.PrintLast Go.Proofs.YtmplnpjdbfedbaaGreatDoorW.PrintMore
attribute [local go_sem] max2_int min2_int max_two min_two max_three min_three max_four min_four
set_option linter.unusedVariables false
set_option linter.unusedSimpArgs false
section
open Go.Proofs.YtmplnpjdbfedbaaGreatDoorW.PrintWords.Aside0 renaming mk → yaa
open Go.Proofs.YtmplnpjdbfedbaaGreatDoorW.PrintWords renaming pw_below_drewN → yab, below_alloc → yac, below_drew1 → yad, below_set → yai
open Go.Proofs.YtmplnpjdbfedbaaGreatDoor.X.IsS77 renaming alloc → yae, drewN → yaf, set_1 → yag, drew → yah
def spec_DrawAskRead.f (k : Nat) (l0 : List Int) : Option (ByteArray) := (spec_l20Open.f l0).bind fun bt101 => ((spec_l20Ask.f k bt101.1 bt101.2 0).bind fun bt104 => ((spec_AskText.f k bt104.1 bt104.2.1 bt104.2.2.1).bind fun t110 => ((spec_l20Rd_pick.f k bt101.1 bt104.2.2.2 4).bind fun bt111 => (if bt111.1 = 0 then ((spec_l20Bent.f k bt101.1 bt111.2 t110).bind fun bt113 => (some bt113.1)) else (if bt111.1 = 1 then ((some (([(⟨#[]⟩ : ByteArray), (⟨#[47, 45, 47, 97, 63, 101, 61, 53]⟩ : ByteArray), (⟨#[47, 45, 47, 97, 63, 101, 61, 48, 53]⟩ : ByteArray), (⟨#[47, 45, 47, 97, 63, 101, 61]⟩ : ByteArray), (⟨#[47, 45, 47, 97]⟩ : ByteArray), (⟨#[47, 47, 97, 63, 101, 61, 53]⟩ : ByteArray), (⟨#[47, 116, 117, 114, 110, 44, 47, 97, 63, 101, 61, 53]⟩ : ByteArray), (⟨#[47, 116, 117, 114, 110, 44, 45, 47, 97, 63, 101, 61, 53]⟩ : ByteArray), (⟨#[47, 116, 117, 114, 110, 47, 97, 63, 101, 61, 53, 63, 101, 61, 53]⟩ : ByteArray), (⟨#[45, 47, 97, 63, 101, 61, 53]⟩ : ByteArray), (⟨#[47, 45, 47, 97, 47, 63, 101, 61, 53]⟩ : ByteArray), (⟨#[47, 45, 47, 97, 63, 102, 61, 53]⟩ : ByteArray)] : List ByteArray) : List ByteArray)).bind fun y115 => ((spec_l20Rd_pick.f k bt101.1 bt111.2 12).bind fun bt118 => (if 0 ≤ bt118.1 then (if bt118.1 < (y115.length : Int) then (some (rdOf ByteArray.empty y115 bt118.1)) else (none)) else (none)))) else (some t110))))))
set_option maxHeartbeats 8000000 in
set_option maxRecDepth 100000 in
theorem spec_DrawAskRead.calls (k : Nat) (A0 : Option Addr) (c0 : Nat) (l0 : List Int) (r : ByteArray) (w : World) (hr0 : Kd.C (Kd.int .u8) w A0 l0.length l0) (hc0 : l0.length ≤ c0) (h : spec_DrawAskRead.f k l0 = some r) :
  Calls Tryz.prog 11 #[.slice A0 l0.length c0] w fun e w' => e = .returned (.string r) ∧ Below w.heap.size w w' := by
 have HR0 := yaa hr0; have HC0 := yaa hc0; clear hr0 hc0; have HB := yaa (Below.refl w.heap.size w); have H : ((spec_l20Open.f l0).bind fun b0 => ((spec_l20Ask.f k b0.1 b0.2 0).bind fun b2 => ((spec_AskText.f k b2.1 b2.2.1 b2.2.2.1).bind fun b1 => ((spec_l20Rd_pick.f k b0.1 b2.2.2.2 4).bind fun b3 => (if b3.1 = 0 then ((spec_l20Bent.f k b0.1 b3.2 b1).bind fun b9 => (some b9.1)) else (if b3.1 = 1 then ((some (([(⟨#[]⟩ : ByteArray), (⟨#[47, 45, 47, 97, 63, 101, 61, 53]⟩ : ByteArray), (⟨#[47, 45, 47, 97, 63, 101, 61, 48, 53]⟩ : ByteArray), (⟨#[47, 45, 47, 97, 63, 101, 61]⟩ : ByteArray), (⟨#[47, 45, 47, 97]⟩ : ByteArray), (⟨#[47, 47, 97, 63, 101, 61, 53]⟩ : ByteArray), (⟨#[47, 116, 117, 114, 110, 44, 47, 97, 63, 101, 61, 53]⟩ : ByteArray), (⟨#[47, 116, 117, 114, 110, 44, 45, 47, 97, 63, 101, 61, 53]⟩ : ByteArray), (⟨#[47, 116, 117, 114, 110, 47, 97, 63, 101, 61, 53, 63, 101, 61, 53]⟩ : ByteArray), (⟨#[45, 47, 97, 63, 101, 61, 53]⟩ : ByteArray), (⟨#[47, 45, 47, 97, 47, 63, 101, 61, 53]⟩ : ByteArray), (⟨#[47, 45, 47, 97, 63, 102, 61, 53]⟩ : ByteArray)] : List ByteArray) : List ByteArray)).bind fun y115 => ((spec_l20Rd_pick.f k b0.1 b3.2 12).bind fun a4 => (if 0 ≤ a4.1 then (if a4.1 < (y115.length : Int) then (some (rdOf ByteArray.empty y115 a4.1)) else (none)) else (none)))) else (some b1))))))) = some r := h; clear h; obtain ⟨⟨a3, b5⟩, A2, H⟩ := bindA H; (try dsimp only at H); obtain ⟨⟨a5, a6, a7, a8⟩, A3, H⟩ := bindA H; (try dsimp only at H); obtain ⟨b1, A4, H⟩ := bindA H; (try dsimp only at H); obtain ⟨⟨b7, a9⟩, A5, H⟩ := bindA H; (try dsimp only at H)
 by_cases c6 : b7 = 0
 ·
  rw [if_pos c6] at H
  have c5 := beq_iff_eq.mpr c6; have c7 := bne_eq_false_iff_eq.mpr c6; clear c6; obtain ⟨⟨c8, c9⟩, A7, H⟩ := bindA H; (try dsimp only at H); obtain rfl := Option.some.inj H
  go_enter Tryz.func11, Tryz.ntmps11
  go_wp2_with (first | ((with_reducible refine gc_ 17 rfl ?_); refine gl_ (some 6) rfl Tryz.func17 #[.slice A0 l0.length c0] ?_; (with_reducible refine (spec_l20Open.calls _ _ l0 a3 b5 w _ ?side1 ?side2 ?side3 A2.out).mono ?_); (case side1 => exact upH HB.out); (case side2 => exact HR0.out); (case side3 => exact HC0.out); rintro e w8 ⟨g103, rfl, hi, hb, hb2⟩; refine ⟨_, rfl, ?_⟩; replace HB := yaa (hb); have a1 := yaa (hi); (try clear hb hb2 hi)) | ((with_reducible refine gc_ 19 rfl ?_); refine gl_ (some 8) rfl Tryz.func19 #[.pointer (some ⟨g103, 0, none⟩), .int .i64 0] ?_; (with_reducible refine (spec_l20Ask.calls k g103 a3 b5 0 a5 a6 a7 a8 w _ ?side1 ?side2 A3.out).mono ?_); (case side1 => repeat (with_reducible first | exact a1.out | apply yae | apply yaf | apply yah | apply yag)); (case side2 => repeat (with_reducible first | exact HB.out | apply yac | apply yab | apply yad | refine yai ?_ (IsS77.ge a1.out))); rintro e w9 ⟨c1, rfl, ho0, hi, hb, hk⟩; refine ⟨_, rfl, ?_⟩; have a2 := yaa (Kd.R_lower ho0 (below_size (by repeat (with_reducible first | exact HB.out | apply yac | apply yab | apply yad | refine yai ?_ (IsS77.ge a1.out))))); replace HB := yaa (hb); replace a1 := yaa (hi); (try clear hb hk hi ho0); obtain ⟨d0, d1, d2⟩ := Kd.R_slice a2.out; subst d2) | ((with_reducible refine gc_ 22 rfl ?_); refine gl_ (some 9) rfl Tryz.func22 #[.agg #[.slice d0 a5.length d1, .string a6, .int .i64 a7]] ?_; (with_reducible refine (spec_AskText.calls k _ _ a5 a6 a7 b1 _ ?side1 ?side2 A4.out).mono ?_); (case side1 => repeat (first | exact (Kd.R_reads' a2.out).2.2 | (with_reducible refine Kd.C_alloc ?_ _) | (with_reducible refine Kd.C_drewN ?_ _) | (with_reducible refine Kd.C_drew ?_))); (case side2 => exact (Kd.R_reads' a2.out).2.1); rintro e w11 ⟨rfl, hb⟩; refine ⟨_, rfl, ?_⟩; replace a2 := yaa (Kd.R_below (upR a2.out) hb); replace HB := yaa (below_step (by repeat (with_reducible first | exact HB.out | apply yac | apply yab | apply yad | refine yai ?_ (IsS77.ge a1.out))) hb); replace a1 := yaa (IsS77.below (by repeat (with_reducible first | exact a1.out | apply yae | apply yaf | apply yah | apply yag)) hb); (try clear hb)) | ((with_reducible refine gc_ 27 rfl ?_); refine gl_ (some 11) rfl Tryz.func27 #[.pointer (some ⟨g103, 0, none⟩), .int .i64 4] ?_; (with_reducible refine (spec_l20Rd_pick.calls k g103 a3 a8 4 b7 a9 w _ ?side1 ?side2 A5.out).mono ?_); (case side1 => repeat (with_reducible first | exact a1.out | apply yae | apply yaf | apply yah | apply yag)); (case side2 => repeat (with_reducible first | exact HB.out | apply yac | apply yab | apply yad | refine yai ?_ (IsS77.ge a1.out))); rintro e w12 ⟨rfl, hi, hb, hk⟩; refine ⟨_, rfl, ?_⟩; replace a2 := yaa (Kd.R_mono (Kd.R_keep (IsS77.apart (show IsS77 w _ g103 a3 a8 from by repeat (with_reducible first | exact a1.out | apply yae | apply yaf | apply yah | apply yag)) (upR a2.out) (by decide)) hk (fun _ h => h.2)) (fun _ h => h.1)); replace HB := yaa (hb); replace a1 := yaa (hi); (try clear hb hk hi)) | ((with_reducible refine gc_ 28 rfl ?_); refine gl_ (some 16) rfl Tryz.func28 #[.pointer (some ⟨g103, 0, none⟩), .string b1] ?_; (with_reducible refine (spec_l20Bent.calls k g103 a3 a9 b1 c8 c9 w _ ?side1 ?side2 A7.out).mono ?_); (case side1 => repeat (with_reducible first | exact a1.out | apply yae | apply yaf | apply yah | apply yag)); (case side2 => repeat (with_reducible first | exact HB.out | apply yac | apply yab | apply yad | refine yai ?_ (IsS77.ge a1.out))); rintro e w13 ⟨rfl, hi, hb, hk⟩; refine ⟨_, rfl, ?_⟩; replace a2 := yaa (Kd.R_mono (Kd.R_keep (IsS77.apart (show IsS77 w _ g103 a3 a9 from by repeat (with_reducible first | exact a1.out | apply yae | apply yaf | apply yah | apply yag)) (upR a2.out) (by decide)) hk (fun _ h => h.2)) (fun _ h => h.1)); replace HB := yaa (hb); replace a1 := yaa (hi); (try clear hb hk hi)))
  go_ret
  exact ⟨by first | rfl | (simp [*, errW_none, errW_some] <;> rfl), by repeat (with_reducible first | exact HB.out | apply yac | apply yab | apply yad | refine yai ?_ (IsS77.ge a1.out))⟩
 rw [if_neg c6] at H
 have c5 := beq_eq_false_iff_ne.mpr c6; have c7 := bne_iff_ne.mpr c6
 by_cases c14 : b7 = 1
 ·
  rw [if_pos c14] at H
  have c2 := beq_iff_eq.mpr c14; have c3 := bne_eq_false_iff_eq.mpr c14; clear c14; obtain ⟨y115, hy115⟩ : ∃ y_ : List ByteArray, y_ = (([(⟨#[]⟩ : ByteArray), (⟨#[47, 45, 47, 97, 63, 101, 61, 53]⟩ : ByteArray), (⟨#[47, 45, 47, 97, 63, 101, 61, 48, 53]⟩ : ByteArray), (⟨#[47, 45, 47, 97, 63, 101, 61]⟩ : ByteArray), (⟨#[47, 45, 47, 97]⟩ : ByteArray), (⟨#[47, 47, 97, 63, 101, 61, 53]⟩ : ByteArray), (⟨#[47, 116, 117, 114, 110, 44, 47, 97, 63, 101, 61, 53]⟩ : ByteArray), (⟨#[47, 116, 117, 114, 110, 44, 45, 47, 97, 63, 101, 61, 53]⟩ : ByteArray), (⟨#[47, 116, 117, 114, 110, 47, 97, 63, 101, 61, 53, 63, 101, 61, 53]⟩ : ByteArray), (⟨#[45, 47, 97, 63, 101, 61, 53]⟩ : ByteArray), (⟨#[47, 45, 47, 97, 47, 63, 101, 61, 53]⟩ : ByteArray), (⟨#[47, 45, 47, 97, 63, 102, 61, 53]⟩ : ByteArray)] : List ByteArray)) := ⟨_, rfl⟩
  replace H : ((spec_l20Rd_pick.f k a3 a9 12).bind fun a4 => (if 0 ≤ a4.1 then (if a4.1 < (y115.length : Int) then (some (rdOf ByteArray.empty y115 a4.1)) else (none)) else (none))) = some r := by first | (rw [hy115]; with_reducible exact H) | (have H2_ := (Option.bind_some _ _).symm.trans H; rw [hy115]; with_reducible exact H2_) | (have H2_ := (Option.bind_some _ _).symm.trans H; with_reducible exact H2_) | with_reducible exact H | (rw [hy115]; exact H) | exact H
  have Ny115 := yaa hy115; clear hy115; obtain ⟨⟨b6, d3⟩, A15, H⟩ := bindA H; (try dsimp only at H)
  by_cases c16 : 0 ≤ b6
  ·
   rw [if_pos c16] at H
   replace c16 := decide_eq_true c16
   by_cases c17 : b6 < (y115.length : Int)
   ·
    rw [if_pos c17] at H
    replace c17 := decide_eq_true c17; obtain rfl := Option.some.inj H
    go_enter Tryz.func11, Tryz.ntmps11
    go_wp2_with (first | ((with_reducible refine gc_ 17 rfl ?_); refine gl_ (some 6) rfl Tryz.func17 #[.slice A0 l0.length c0] ?_; (with_reducible refine (spec_l20Open.calls _ _ l0 a3 b5 w _ ?side1 ?side2 ?side3 A2.out).mono ?_); (case side1 => exact upH HB.out); (case side2 => exact HR0.out); (case side3 => exact HC0.out); rintro e w18 ⟨g103, rfl, hi, hb, hb2⟩; refine ⟨_, rfl, ?_⟩; replace HB := yaa (hb); have a1 := yaa (hi); (try clear hb hb2 hi)) | ((with_reducible refine gc_ 19 rfl ?_); refine gl_ (some 8) rfl Tryz.func19 #[.pointer (some ⟨g103, 0, none⟩), .int .i64 0] ?_; (with_reducible refine (spec_l20Ask.calls k g103 a3 b5 0 a5 a6 a7 a8 w _ ?side1 ?side2 A3.out).mono ?_); (case side1 => repeat (with_reducible first | exact a1.out | apply yae | apply yaf | apply yah | apply yag)); (case side2 => repeat (with_reducible first | exact HB.out | apply yac | apply yab | apply yad | refine yai ?_ (IsS77.ge a1.out))); rintro e w19 ⟨c1, rfl, ho0, hi, hb, hk⟩; refine ⟨_, rfl, ?_⟩; have a2 := yaa (Kd.R_lower ho0 (below_size (by repeat (with_reducible first | exact HB.out | apply yac | apply yab | apply yad | refine yai ?_ (IsS77.ge a1.out))))); replace HB := yaa (hb); replace a1 := yaa (hi); (try clear hb hk hi ho0); obtain ⟨d4, d5, d6⟩ := Kd.R_slice a2.out; subst d6) | ((with_reducible refine gc_ 22 rfl ?_); refine gl_ (some 9) rfl Tryz.func22 #[.agg #[.slice d4 a5.length d5, .string a6, .int .i64 a7]] ?_; (with_reducible refine (spec_AskText.calls k _ _ a5 a6 a7 b1 _ ?side1 ?side2 A4.out).mono ?_); (case side1 => repeat (first | exact (Kd.R_reads' a2.out).2.2 | (with_reducible refine Kd.C_alloc ?_ _) | (with_reducible refine Kd.C_drewN ?_ _) | (with_reducible refine Kd.C_drew ?_))); (case side2 => exact (Kd.R_reads' a2.out).2.1); rintro e w21 ⟨rfl, hb⟩; refine ⟨_, rfl, ?_⟩; replace a2 := yaa (Kd.R_below (upR a2.out) hb); replace HB := yaa (below_step (by repeat (with_reducible first | exact HB.out | apply yac | apply yab | apply yad | refine yai ?_ (IsS77.ge a1.out))) hb); replace a1 := yaa (IsS77.below (by repeat (with_reducible first | exact a1.out | apply yae | apply yaf | apply yah | apply yag)) hb); (try clear hb)) | ((with_reducible refine gc_ 27 rfl ?_); refine gl_ (some 11) rfl Tryz.func27 #[.pointer (some ⟨g103, 0, none⟩), .int .i64 4] ?_; (with_reducible refine (spec_l20Rd_pick.calls k g103 a3 a8 4 b7 a9 w _ ?side1 ?side2 A5.out).mono ?_); (case side1 => repeat (with_reducible first | exact a1.out | apply yae | apply yaf | apply yah | apply yag)); (case side2 => repeat (with_reducible first | exact HB.out | apply yac | apply yab | apply yad | refine yai ?_ (IsS77.ge a1.out))); rintro e w22 ⟨rfl, hi, hb, hk⟩; refine ⟨_, rfl, ?_⟩; replace a2 := yaa (Kd.R_mono (Kd.R_keep (IsS77.apart (show IsS77 w _ g103 a3 a8 from by repeat (with_reducible first | exact a1.out | apply yae | apply yaf | apply yah | apply yag)) (upR a2.out) (by decide)) hk (fun _ h => h.2)) (fun _ h => h.1)); replace HB := yaa (hb); replace a1 := yaa (hi); (try clear hb hk hi)) | ((with_reducible refine gd_ 19 rfl ?_); refine Kd.R_lit Kd.string _ 9 ?hg (N := 19) ?hd (xs := ([(⟨#[]⟩ : ByteArray), (⟨#[47, 45, 47, 97, 63, 101, 61, 53]⟩ : ByteArray), (⟨#[47, 45, 47, 97, 63, 101, 61, 48, 53]⟩ : ByteArray), (⟨#[47, 45, 47, 97, 63, 101, 61]⟩ : ByteArray), (⟨#[47, 45, 47, 97]⟩ : ByteArray), (⟨#[47, 47, 97, 63, 101, 61, 53]⟩ : ByteArray), (⟨#[47, 116, 117, 114, 110, 44, 47, 97, 63, 101, 61, 53]⟩ : ByteArray), (⟨#[47, 116, 117, 114, 110, 44, 45, 47, 97, 63, 101, 61, 53]⟩ : ByteArray), (⟨#[47, 116, 117, 114, 110, 47, 97, 63, 101, 61, 53, 63, 101, 61, 53]⟩ : ByteArray), (⟨#[45, 47, 97, 63, 101, 61, 53]⟩ : ByteArray), (⟨#[47, 45, 47, 97, 47, 63, 101, 61, 53]⟩ : ByteArray), (⟨#[47, 45, 47, 97, 63, 102, 61, 53]⟩ : ByteArray)] : List ByteArray)) (inner := [.string (⟨#[]⟩ : ByteArray), .string (⟨#[47, 45, 47, 97, 63, 101, 61, 53]⟩ : ByteArray), .string (⟨#[47, 45, 47, 97, 63, 101, 61, 48, 53]⟩ : ByteArray), .string (⟨#[47, 45, 47, 97, 63, 101, 61]⟩ : ByteArray), .string (⟨#[47, 45, 47, 97]⟩ : ByteArray), .string (⟨#[47, 47, 97, 63, 101, 61, 53]⟩ : ByteArray), .string (⟨#[47, 116, 117, 114, 110, 44, 47, 97, 63, 101, 61, 53]⟩ : ByteArray), .string (⟨#[47, 116, 117, 114, 110, 44, 45, 47, 97, 63, 101, 61, 53]⟩ : ByteArray), .string (⟨#[47, 116, 117, 114, 110, 47, 97, 63, 101, 61, 53, 63, 101, 61, 53]⟩ : ByteArray), .string (⟨#[45, 47, 97, 63, 101, 61, 53]⟩ : ByteArray), .string (⟨#[47, 45, 47, 97, 47, 63, 101, 61, 53]⟩ : ByteArray), .string (⟨#[47, 45, 47, 97, 63, 102, 61, 53]⟩ : ByteArray)]) (ok := fun _ => True) (okp := fun _ => True) ?hr ?hp (fun _ hk => hk) trivial (Below.refl _ _) (Nat.le_refl _) (by simp) ?_; (case hd => rfl); (case hg => rfl); (case hr => first | (go_simp; done) | (go_simp; rfl)); (case hp => exact (Reps.one (show Kd.M Kd.string _ _ _ (⟨#[]⟩ : ByteArray) [.string (⟨#[]⟩ : ByteArray)] from rfl) (Reps.one (show Kd.M Kd.string _ _ _ (⟨#[47, 45, 47, 97, 63, 101, 61, 53]⟩ : ByteArray) [.string (⟨#[47, 45, 47, 97, 63, 101, 61, 53]⟩ : ByteArray)] from rfl) (Reps.one (show Kd.M Kd.string _ _ _ (⟨#[47, 45, 47, 97, 63, 101, 61, 48, 53]⟩ : ByteArray) [.string (⟨#[47, 45, 47, 97, 63, 101, 61, 48, 53]⟩ : ByteArray)] from rfl) (Reps.one (show Kd.M Kd.string _ _ _ (⟨#[47, 45, 47, 97, 63, 101, 61]⟩ : ByteArray) [.string (⟨#[47, 45, 47, 97, 63, 101, 61]⟩ : ByteArray)] from rfl) (Reps.one (show Kd.M Kd.string _ _ _ (⟨#[47, 45, 47, 97]⟩ : ByteArray) [.string (⟨#[47, 45, 47, 97]⟩ : ByteArray)] from rfl) (Reps.one (show Kd.M Kd.string _ _ _ (⟨#[47, 47, 97, 63, 101, 61, 53]⟩ : ByteArray) [.string (⟨#[47, 47, 97, 63, 101, 61, 53]⟩ : ByteArray)] from rfl) (Reps.one (show Kd.M Kd.string _ _ _ (⟨#[47, 116, 117, 114, 110, 44, 47, 97, 63, 101, 61, 53]⟩ : ByteArray) [.string (⟨#[47, 116, 117, 114, 110, 44, 47, 97, 63, 101, 61, 53]⟩ : ByteArray)] from rfl) (Reps.one (show Kd.M Kd.string _ _ _ (⟨#[47, 116, 117, 114, 110, 44, 45, 47, 97, 63, 101, 61, 53]⟩ : ByteArray) [.string (⟨#[47, 116, 117, 114, 110, 44, 45, 47, 97, 63, 101, 61, 53]⟩ : ByteArray)] from rfl) (Reps.one (show Kd.M Kd.string _ _ _ (⟨#[47, 116, 117, 114, 110, 47, 97, 63, 101, 61, 53, 63, 101, 61, 53]⟩ : ByteArray) [.string (⟨#[47, 116, 117, 114, 110, 47, 97, 63, 101, 61, 53, 63, 101, 61, 53]⟩ : ByteArray)] from rfl) (Reps.one (show Kd.M Kd.string _ _ _ (⟨#[45, 47, 97, 63, 101, 61, 53]⟩ : ByteArray) [.string (⟨#[45, 47, 97, 63, 101, 61, 53]⟩ : ByteArray)] from rfl) (Reps.one (show Kd.M Kd.string _ _ _ (⟨#[47, 45, 47, 97, 47, 63, 101, 61, 53]⟩ : ByteArray) [.string (⟨#[47, 45, 47, 97, 47, 63, 101, 61, 53]⟩ : ByteArray)] from rfl) (Reps.one (show Kd.M Kd.string _ _ _ (⟨#[47, 45, 47, 97, 63, 102, 61, 53]⟩ : ByteArray) [.string (⟨#[47, 45, 47, 97, 63, 102, 61, 53]⟩ : ByteArray)] from rfl) (Reps.none _ _)))))))))))))); intro e2 w23 b8 hb hg_ hnew_; clear hg_ hnew_; (first | rw [← Ny115.out] at b8 | (simp only [Int.reduceToNat] at b8; rw [← Ny115.out] at b8)); replace a2 := yaa (Kd.R_below (upR a2.out) hb); have b4 := yaa (Kd.R_lower b8 (below_size (by repeat (with_reducible first | exact HB.out | apply yac | apply yab | apply yad | refine yai ?_ (IsS77.ge a1.out))))); replace HB := yaa (below_step (by repeat (with_reducible first | exact HB.out | apply yac | apply yab | apply yad | refine yai ?_ (IsS77.ge a1.out))) hb); replace a1 := yaa (IsS77.below (by repeat (with_reducible first | exact a1.out | apply yae | apply yaf | apply yah | apply yag)) hb); clear hb b8) | ((with_reducible refine gc_ 27 rfl ?_); refine gl_ (some 21) rfl Tryz.func27 #[.pointer (some ⟨g103, 0, none⟩), .int .i64 12] ?_; (with_reducible refine (spec_l20Rd_pick.calls k g103 a3 a9 12 b6 d3 w _ ?side1 ?side2 A15.out).mono ?_); (case side1 => repeat (with_reducible first | exact a1.out | apply yae | apply yaf | apply yah | apply yag)); (case side2 => repeat (with_reducible first | exact HB.out | apply yac | apply yab | apply yad | refine yai ?_ (IsS77.ge a1.out))); rintro e w25 ⟨rfl, hi, hb, hk⟩; refine ⟨_, rfl, ?_⟩; replace a2 := yaa (Kd.R_mono (Kd.R_keep (IsS77.apart (show IsS77 w _ g103 a3 a9 from by repeat (with_reducible first | exact a1.out | apply yae | apply yaf | apply yah | apply yag)) (upR a2.out) (by decide)) hk (fun _ h => h.2)) (fun _ h => h.1)); replace b4 := yaa (Kd.R_mono (Kd.R_keep (IsS77.apart (show IsS77 w _ g103 a3 a9 from by repeat (with_reducible first | exact a1.out | apply yae | apply yaf | apply yah | apply yag)) (upR b4.out) (by decide)) hk (fun _ h => h.2)) (fun _ h => h.1)); replace HB := yaa (hb); replace a1 := yaa (hi); (try clear hb hk hi); obtain ⟨e3, e4, d7⟩ := Kd.R_slice b4.out; subst d7; have p120 : 0 ≤ (b6 : Int) := of_decide_eq_true (by assumption); have q120 : b6 < (y115.length : Int) := of_decide_eq_true (by assumption); obtain ⟨ad120, d8, c4⟩ := Kd.at_string (Kd.R_reads' b4.out).2.2 b6 p120 q120; cases d8; replace p120 := eq_true p120; replace q120 := eq_true q120))
    go_ret
    exact ⟨by first | rfl | (simp [*, errW_none, errW_some] <;> rfl), by repeat (with_reducible first | exact HB.out | apply yac | apply yab | apply yad | refine yai ?_ (IsS77.ge a1.out))⟩
   rw [if_neg c17] at H
   exact absurd H (by simp)
  rw [if_neg c16] at H
  exact absurd H (by simp)
 rw [if_neg c14] at H
 have c2 := beq_eq_false_iff_ne.mpr c14; have c3 := bne_iff_ne.mpr c14; obtain rfl := Option.some.inj H
 go_enter Tryz.func11, Tryz.ntmps11
 go_wp2_with (first | ((with_reducible refine gc_ 17 rfl ?_); refine gl_ (some 6) rfl Tryz.func17 #[.slice A0 l0.length c0] ?_; (with_reducible refine (spec_l20Open.calls _ _ l0 a3 b5 w _ ?side1 ?side2 ?side3 A2.out).mono ?_); (case side1 => exact upH HB.out); (case side2 => exact HR0.out); (case side3 => exact HC0.out); rintro e w27 ⟨g103, rfl, hi, hb, hb2⟩; refine ⟨_, rfl, ?_⟩; replace HB := yaa (hb); have a1 := yaa (hi); (try clear hb hb2 hi)) | ((with_reducible refine gc_ 19 rfl ?_); refine gl_ (some 8) rfl Tryz.func19 #[.pointer (some ⟨g103, 0, none⟩), .int .i64 0] ?_; (with_reducible refine (spec_l20Ask.calls k g103 a3 b5 0 a5 a6 a7 a8 w _ ?side1 ?side2 A3.out).mono ?_); (case side1 => repeat (with_reducible first | exact a1.out | apply yae | apply yaf | apply yah | apply yag)); (case side2 => repeat (with_reducible first | exact HB.out | apply yac | apply yab | apply yad | refine yai ?_ (IsS77.ge a1.out))); rintro e w28 ⟨c1, rfl, ho0, hi, hb, hk⟩; refine ⟨_, rfl, ?_⟩; have a2 := yaa (Kd.R_lower ho0 (below_size (by repeat (with_reducible first | exact HB.out | apply yac | apply yab | apply yad | refine yai ?_ (IsS77.ge a1.out))))); replace HB := yaa (hb); replace a1 := yaa (hi); (try clear hb hk hi ho0); obtain ⟨d9, e0, e1⟩ := Kd.R_slice a2.out; subst e1) | ((with_reducible refine gc_ 22 rfl ?_); refine gl_ (some 9) rfl Tryz.func22 #[.agg #[.slice d9 a5.length e0, .string a6, .int .i64 a7]] ?_; (with_reducible refine (spec_AskText.calls k _ _ a5 a6 a7 b1 _ ?side1 ?side2 A4.out).mono ?_); (case side1 => repeat (first | exact (Kd.R_reads' a2.out).2.2 | (with_reducible refine Kd.C_alloc ?_ _) | (with_reducible refine Kd.C_drewN ?_ _) | (with_reducible refine Kd.C_drew ?_))); (case side2 => exact (Kd.R_reads' a2.out).2.1); rintro e w30 ⟨rfl, hb⟩; refine ⟨_, rfl, ?_⟩; replace a2 := yaa (Kd.R_below (upR a2.out) hb); replace HB := yaa (below_step (by repeat (with_reducible first | exact HB.out | apply yac | apply yab | apply yad | refine yai ?_ (IsS77.ge a1.out))) hb); replace a1 := yaa (IsS77.below (by repeat (with_reducible first | exact a1.out | apply yae | apply yaf | apply yah | apply yag)) hb); (try clear hb)) | ((with_reducible refine gc_ 27 rfl ?_); refine gl_ (some 11) rfl Tryz.func27 #[.pointer (some ⟨g103, 0, none⟩), .int .i64 4] ?_; (with_reducible refine (spec_l20Rd_pick.calls k g103 a3 a8 4 b7 a9 w _ ?side1 ?side2 A5.out).mono ?_); (case side1 => repeat (with_reducible first | exact a1.out | apply yae | apply yaf | apply yah | apply yag)); (case side2 => repeat (with_reducible first | exact HB.out | apply yac | apply yab | apply yad | refine yai ?_ (IsS77.ge a1.out))); rintro e w31 ⟨rfl, hi, hb, hk⟩; refine ⟨_, rfl, ?_⟩; replace a2 := yaa (Kd.R_mono (Kd.R_keep (IsS77.apart (show IsS77 w _ g103 a3 a8 from by repeat (with_reducible first | exact a1.out | apply yae | apply yaf | apply yah | apply yag)) (upR a2.out) (by decide)) hk (fun _ h => h.2)) (fun _ h => h.1)); replace HB := yaa (hb); replace a1 := yaa (hi); (try clear hb hk hi)))
 go_ret
 exact ⟨by first | rfl | (simp [*, errW_none, errW_some] <;> rfl), by repeat (with_reducible first | exact HB.out | apply yac | apply yab | apply yad | refine yai ?_ (IsS77.ge a1.out))⟩
end
section
open Go.Proofs.YtmplnpjdbfedbaaGreatDoorW.PrintWords.Aside0 renaming mk → yaa
open Go.Proofs.YtmplnpjdbfedbaaGreatDoor.X.IsS77 renaming alloc → yab, drewN → yac, set_1 → yad, drew → yag
open Go.Proofs.YtmplnpjdbfedbaaGreatDoorW.PrintWords.KeepBut renaming set_ → yae
open Go.Proofs.YtmplnpjdbfedbaaGreatDoorW.PrintWords renaming pw_below_drewN → yaf
def spec_l20Bytes.l0 : Nat → List Int → Int → List Int → Int → Option (List Int × Int)
 | 0, _, _, _, _ => none
 | k + 1, x5, x6, x1000, x1001 => if x6 > 0 then ((spec_l20Rd_pick.f k x1000 x1001 256).bind fun bt106 => ((spec_l20Rd_pick.f k x1000 bt106.2 4).bind fun bt108 => ((some (([bt106.1, bt108.1, 255] : List Int) : List Int)).bind fun y110 => ((spec_l20Rd_pick.f k x1000 bt108.2 3).bind fun bt113 => (if 0 ≤ bt113.1 then (if bt113.1 < (y110.length : Int) then (if x5.length < 140737488355328 then (spec_l20Bytes.l0 k (x5 ++ [(rd y110 bt113.1) % 256]) (wrap64 (x6 - 1)) x1000 bt113.2) else (none)) else (none)) else (none)))))) else (some (x5, x1001))
def spec_l20Bytes.f (k : Nat) (s0_0 : List Int) (s0_1 : Int) (a1 : Int) : Option (List Int × Int) := (spec_l20Rd_pick.f k s0_0 s0_1 (wrap64 (a1 + 1))).bind fun bt104 => (spec_l20Bytes.l0 k (([] : List Int)) bt104.1 s0_0 bt104.2)
set_option maxHeartbeats 8000000 in
set_option maxRecDepth 100000 in
theorem spec_l20Bytes.calls (k : Nat) (g : Nat) (s0_0 : List Int) (s0_1 : Int) (a1 : Int) (r1 : List Int) (r2 : Int) (w0 w : World) (hI : IsS77 w0 w g s0_0 s0_1) (hB : Below w0.heap.size w0 w) (h : spec_l20Bytes.f k s0_0 s0_1 a1 = some (r1, r2)) :
  Calls Tryz.prog 18 #[.pointer (some ⟨g, 0, none⟩), .int .i64 a1] w fun e w' => ∃ v0_ : Value, e = .returned (v0_) ∧ Kd.R (Kd.int .u8) 5 w' w.heap.size (fun _ => True) v0_ r1 ∧ IsS77 w0 w' g s0_0 r2 ∧ Below w0.heap.size w0 w' ∧ KeepBut w w' g none := by
 have HI0 := yaa hI; have HK := yaa (KeepBut.refl w g none); have HL := yaa hB.size; clear hI; have HW0 := yaa hB.size; have HB := yaa hB; clear hB; have H : ((spec_l20Rd_pick.f k s0_0 s0_1 (wrap64 (a1 + 1))).bind fun a7 => (spec_l20Bytes.l0 k (([] : List Int)) a7.1 s0_0 a7.2)) = some (r1, r2) := h; clear h; obtain ⟨y101, hy101⟩ : ∃ y_ : List Int, y_ = (([] : List Int)) := ⟨_, rfl⟩
 replace H : ((spec_l20Rd_pick.f k s0_0 s0_1 (wrap64 (a1 + 1))).bind fun a7 => (spec_l20Bytes.l0 k y101 a7.1 s0_0 a7.2)) = some (r1, r2) := by first | (rw [hy101]; with_reducible exact H) | (have H2_ := (Option.bind_some _ _).symm.trans H; rw [hy101]; with_reducible exact H2_) | (have H2_ := (Option.bind_some _ _).symm.trans H; with_reducible exact H2_) | with_reducible exact H | (rw [hy101]; exact H) | exact H
 have Ny101 := yaa hy101; clear hy101; obtain ⟨⟨b8, b9⟩, A3, H⟩ := bindA H; (try dsimp only at H); have H' := yaa H; clear H
 go_enter Tryz.func18, Tryz.ntmps18
 go_wp2_with (first | ((with_reducible refine gd_ 7 rfl ?_); refine Kd.R_lit (Kd.int .u8) _ 5 ?hg (N := 7) ?hd (xs := ([] : List Int)) (inner := []) (ok := fun _ => True) (okp := fun _ => True) ?hr ?hp (fun _ hk => hk) trivial (Below.refl _ _) (Nat.le_refl _) (by simp) ?_; (case hd => rfl); (case hg => rfl); (case hr => first | (go_simp; done) | (go_simp; rfl)); (case hp => exact (Reps.none _ _)); intro c6 w4 ho5 hb hg_ hnew_; clear hg_ hnew_; (first | rw [← Ny101.out] at ho5 | (simp only [Int.reduceToNat] at ho5; rw [← Ny101.out] at ho5)); have a9 := yaa (Kd.R_lower ho5 (keep_size (w := w) (g := g) (row := none) (by repeat (with_reducible first | exact HK.out | apply yae | apply keep_drewN | apply keep_drew | apply keep_alloc)))); replace HK := yaa (KeepBut.trans (by repeat (with_reducible first | exact HK.out | apply yae | apply keep_drewN | apply keep_drew | apply keep_alloc)) (KeepBut.of_below hb g none) (.inl rfl)); replace HB := yaa (below_step (by repeat (with_reducible first | exact HB.out | apply below_alloc | apply yaf | apply below_drew1 | refine below_set ?_ (IsS77.ge HI0.out))) hb); replace HI0 := yaa (IsS77.below (by repeat (with_reducible first | exact HI0.out | apply yab | apply yac | apply yag | apply yad)) hb); clear hb ho5) | ((with_reducible refine gc_ 27 rfl ?_); refine gl_ (some 11) rfl Tryz.func27 #[.pointer (some ⟨g, 0, none⟩), .int .i64 (wrap64 (a1 + 1))] ?_; (with_reducible refine (spec_l20Rd_pick.calls k g s0_0 s0_1 (wrap64 (a1 + 1)) b8 b9 w0 _ ?side1 ?side2 A3.out).mono ?_); (case side1 => repeat (with_reducible first | exact HI0.out | apply yab | apply yac | apply yag | apply yad)); (case side2 => repeat (with_reducible first | exact HB.out | apply below_alloc | apply yaf | apply below_drew1 | refine below_set ?_ (IsS77.ge HI0.out))); rintro e w6 ⟨rfl, hi, hb, hk⟩; refine ⟨_, rfl, ?_⟩; replace a9 := yaa (Kd.R_mono (Kd.R_keep (IsS77.apart (show IsS77 w0 _ g s0_0 s0_1 from by repeat (with_reducible first | exact HI0.out | apply yab | apply yac | apply yag | apply yad)) (upR a9.out) (by decide)) hk (fun _ h => h.2)) (fun _ h => h.1)); replace HK := yaa (KeepBut.trans (by repeat (with_reducible first | exact HK.out | apply yae | apply keep_drewN | apply keep_drew | apply keep_alloc)) hk (.inl rfl)); replace HB := yaa (hb); replace HI0 := yaa (hi); (try clear hb hk hi)))
 (try simp only [Act.put, List.setIfInBounds_toArray, List.set_cons_zero, List.set_cons_succ])
 go_loopg [5, 6] k (fun kq v5 v6 w' => ∃ (b0 : List Int) (a8 : Int) (a4 : Int), v6 = .int .i64 a8 ∧ Aside0 (spec_l20Bytes.l0 kq b0 a8 s0_0 a4 = some (r1, r2)) ∧ Aside0 (kq ≤ k) ∧ Aside0 (Kd.R (Kd.int .u8) 5 w' w.heap.size (fun _ => True) v5 b0) ∧ Aside0 (IsS77 w0 w' g s0_0 a4) ∧ Aside0 (KeepBut w w' g none) ∧ Aside0 (Below w0.heap.size w0 w'))
 case atStart => exact ⟨(y101), (b8), (b9), (by first | rfl | (simp; done) | (simp [*]; done)), H', ⟨Nat.le_refl _⟩, ⟨by first | exact a9.out | exact upR a9.out⟩, ⟨by repeat (with_reducible first | exact HI0.out | apply yab | apply yac | apply yag | apply yad)⟩, ⟨by repeat (with_reducible first | exact HK.out | apply yae | apply keep_drewN | apply keep_drew | apply keep_alloc)⟩, ⟨by repeat (with_reducible first | exact HB.out | apply below_alloc | apply yaf | apply below_drew1 | refine below_set ?_ (IsS77.ge HI0.out))⟩⟩
 case round =>
  clear H'; (try clear c1); (try clear c2); (try clear p2); (try clear p6); obtain ⟨b0, a8, a4, rfl, HA, HK1, a3, HI0, HK, HB⟩ := hrel
  cases gk with
  | zero => exact absurd HA.out (by simp [spec_l20Bytes.l0])
  | succ k1 =>
   have H := HA.out; clear HA
   simp only [spec_l20Bytes.l0] at H
   by_cases c7 : a8 > 0
   rotate_left
   ·
    rw [if_neg c7] at H
    have c3 : decide (0 < a8) = false := decide_eq_false c7; clear c7
    simp only [Option.some.injEq, Prod.mk.injEq] at H
    obtain ⟨rfl, rfl⟩ := H
    go_wp2
    go_ret
    exact ⟨_, by first | rfl | (simp [*, errW_none, errW_some] <;> rfl), by first | exact a3.out | exact upR a3.out, by repeat (with_reducible first | exact HI0.out | apply yab | apply yac | apply yag | apply yad), by repeat (with_reducible first | exact HB.out | apply below_alloc | apply yaf | apply below_drew1 | refine below_set ?_ (IsS77.ge HI0.out)), by repeat (with_reducible first | exact HK.out | apply yae | apply keep_drewN | apply keep_drew | apply keep_alloc)⟩
   rw [if_pos c7] at H
   have c3 : decide (0 < a8) = true := decide_eq_true c7; clear c7; obtain ⟨⟨b1, b6⟩, A8, H⟩ := bindA H; (try dsimp only at H); obtain ⟨⟨b2, b4⟩, A9, H⟩ := bindA H; (try dsimp only at H); obtain ⟨y110, hy110, H⟩ := bindY H; (try dsimp only at H); have Ny110 := yaa hy110; clear hy110; obtain ⟨⟨a6, b7⟩, A10, H⟩ := bindA H; (try dsimp only at H)
   by_cases c11 : 0 ≤ a6
   rotate_left
   ·
    rw [if_neg c11] at H
    exact absurd H (by simp)
   rw [if_pos c11] at H
   replace c11 := decide_eq_true c11
   by_cases c12 : a6 < (y110.length : Int)
   ·
    rw [if_pos c12] at H
    replace c12 := decide_eq_true c12
    by_cases c13 : b0.length < 140737488355328
    ·
     rw [if_pos c13] at H
     have LMc13 := yaa c13; clear c13; obtain ⟨y116, hy116⟩ : ∃ y_ : List Int, y_ = (b0 ++ [(rd y110 a6) % 256]) := ⟨_, rfl⟩
     replace H : (spec_l20Bytes.l0 k1 y116 (wrap64 (a8 - 1)) s0_0 b7) = some (r1, r2) := by first | (rw [hy116]; with_reducible exact H) | (have H2_ := (Option.bind_some _ _).symm.trans H; rw [hy116]; with_reducible exact H2_) | (have H2_ := (Option.bind_some _ _).symm.trans H; with_reducible exact H2_) | with_reducible exact H | (rw [hy116]; exact H) | exact H
     have Ny116 := yaa hy116; clear hy116; have H' := yaa H; clear H
     go_wp2_with (first | ((with_reducible refine gc_ 27 rfl ?_); refine gl_ (some 18) rfl Tryz.func27 #[.pointer (some ⟨g, 0, none⟩), .int .i64 256] ?_; (with_reducible refine (spec_l20Rd_pick.calls k1 g s0_0 a4 256 b1 b6 w0 _ ?side1 ?side2 A8.out).mono ?_); (case side1 => repeat (with_reducible first | exact HI0.out | apply yab | apply yac | apply yag | apply yad)); (case side2 => repeat (with_reducible first | exact HB.out | apply below_alloc | apply yaf | apply below_drew1 | refine below_set ?_ (IsS77.ge HI0.out))); rintro e w14 ⟨rfl, hi, hb, hk⟩; refine ⟨_, rfl, ?_⟩; replace a3 := yaa (Kd.R_mono (Kd.R_keep (IsS77.apart (show IsS77 w0 _ g s0_0 a4 from by repeat (with_reducible first | exact HI0.out | apply yab | apply yac | apply yag | apply yad)) (upR a3.out) (by decide)) hk (fun _ h => h.2)) (fun _ h => h.1)); replace HK := yaa (KeepBut.trans (by repeat (with_reducible first | exact HK.out | apply yae | apply keep_drewN | apply keep_drew | apply keep_alloc)) hk (.inl rfl)); replace HB := yaa (hb); replace HI0 := yaa (hi); (try clear hb hk hi)) | ((with_reducible refine gc_ 27 rfl ?_); refine gl_ (some 20) rfl Tryz.func27 #[.pointer (some ⟨g, 0, none⟩), .int .i64 4] ?_; (with_reducible refine (spec_l20Rd_pick.calls k1 g s0_0 b6 4 b2 b4 w0 _ ?side1 ?side2 A9.out).mono ?_); (case side1 => repeat (with_reducible first | exact HI0.out | apply yab | apply yac | apply yag | apply yad)); (case side2 => repeat (with_reducible first | exact HB.out | apply below_alloc | apply yaf | apply below_drew1 | refine below_set ?_ (IsS77.ge HI0.out))); rintro e w15 ⟨rfl, hi, hb, hk⟩; refine ⟨_, rfl, ?_⟩; replace a3 := yaa (Kd.R_mono (Kd.R_keep (IsS77.apart (show IsS77 w0 _ g s0_0 b6 from by repeat (with_reducible first | exact HI0.out | apply yab | apply yac | apply yag | apply yad)) (upR a3.out) (by decide)) hk (fun _ h => h.2)) (fun _ h => h.1)); replace HK := yaa (KeepBut.trans (by repeat (with_reducible first | exact HK.out | apply yae | apply keep_drewN | apply keep_drew | apply keep_alloc)) hk (.inl rfl)); replace HB := yaa (hb); replace HI0 := yaa (hi); (try clear hb hk hi)) | ((with_reducible refine gd_ 21 rfl ?_); refine Kd.R_lit (Kd.int .i64) _ 3 ?hg (N := 21) ?hd (xs := ([b1, b2, 255] : List Int)) (inner := [.int .i64 b1, .int .i64 b2, .int .i64 255]) (ok := fun _ => True) (okp := fun _ => True) ?hr ?hp (fun _ hk => hk) trivial (Below.refl _ _) (Nat.le_refl _) (by simp) ?_; (case hd => rfl); (case hg => rfl); (case hr => first | (go_simp; done) | (go_simp; rfl)); (case hp => exact (Reps.one (show Kd.M (Kd.int .i64) _ _ _ b1 [.int .i64 b1] from rfl) (Reps.one (show Kd.M (Kd.int .i64) _ _ _ b2 [.int .i64 b2] from rfl) (Reps.one (show Kd.M (Kd.int .i64) _ _ _ 255 [.int .i64 255] from rfl) (Reps.none _ _))))); intro c8 w16 b3 hb hg_ hnew_; clear hg_ hnew_; (first | rw [← Ny110.out] at b3 | (simp only [Int.reduceToNat] at b3; rw [← Ny110.out] at b3)); replace a3 := yaa (Kd.R_below (upR a3.out) hb); have a5 := yaa (Kd.R_lower b3 (keep_size (w := w) (g := g) (row := none) (by repeat (with_reducible first | exact HK.out | apply yae | apply keep_drewN | apply keep_drew | apply keep_alloc)))); replace HK := yaa (KeepBut.trans (by repeat (with_reducible first | exact HK.out | apply yae | apply keep_drewN | apply keep_drew | apply keep_alloc)) (KeepBut.of_below hb g none) (.inl rfl)); replace HB := yaa (below_step (by repeat (with_reducible first | exact HB.out | apply below_alloc | apply yaf | apply below_drew1 | refine below_set ?_ (IsS77.ge HI0.out))) hb); replace HI0 := yaa (IsS77.below (by repeat (with_reducible first | exact HI0.out | apply yab | apply yac | apply yag | apply yad)) hb); clear hb b3) | ((with_reducible refine gc_ 27 rfl ?_); refine gl_ (some 23) rfl Tryz.func27 #[.pointer (some ⟨g, 0, none⟩), .int .i64 3] ?_; (with_reducible refine (spec_l20Rd_pick.calls k1 g s0_0 b4 3 a6 b7 w0 _ ?side1 ?side2 A10.out).mono ?_); (case side1 => repeat (with_reducible first | exact HI0.out | apply yab | apply yac | apply yag | apply yad)); (case side2 => repeat (with_reducible first | exact HB.out | apply below_alloc | apply yaf | apply below_drew1 | refine below_set ?_ (IsS77.ge HI0.out))); rintro e w18 ⟨rfl, hi, hb, hk⟩; refine ⟨_, rfl, ?_⟩; replace a3 := yaa (Kd.R_mono (Kd.R_keep (IsS77.apart (show IsS77 w0 _ g s0_0 b4 from by repeat (with_reducible first | exact HI0.out | apply yab | apply yac | apply yag | apply yad)) (upR a3.out) (by decide)) hk (fun _ h => h.2)) (fun _ h => h.1)); replace a5 := yaa (Kd.R_mono (Kd.R_keep (IsS77.apart (show IsS77 w0 _ g s0_0 b4 from by repeat (with_reducible first | exact HI0.out | apply yab | apply yac | apply yag | apply yad)) (upR a5.out) (by decide)) hk (fun _ h => h.2)) (fun _ h => h.1)); replace HK := yaa (KeepBut.trans (by repeat (with_reducible first | exact HK.out | apply yae | apply keep_drewN | apply keep_drew | apply keep_alloc)) hk (.inl rfl)); replace HB := yaa (hb); replace HI0 := yaa (hi); (try clear hb hk hi); obtain ⟨c9, d0, c4⟩ := Kd.R_slice a5.out; subst c4; have p115 : 0 ≤ (a6 : Int) := of_decide_eq_true (by assumption); have q115 : a6 < (y110.length : Int) := of_decide_eq_true (by assumption); obtain ⟨ad115, c5, c0⟩ := Kd.at_int (Kd.R_reads' a5.out).2.2 a6 p115 q115; cases c5; replace p115 := eq_true p115; replace q115 := eq_true q115) | ((with_reducible refine gate_builtin (b := .append) (xs := #[.tmp 16, .tmp 27]) rfl ?_); at_builtin; refine Kd.R_append (Kd.int .u8) w.heap.size rfl (.tmp 16) (.tmp 27) 22 5 (.int .u8 0) 1 rfl Tryz.underlying22 info5 rfl (by decide) (by omega) u5 b0 ((rd y110 a6) % 256) [.int .u8 ((rd y110 a6) % 256)] (fun _ => True) (fun _ => False) rfl rfl ?aP (fun _ hk => hk.elim) ?aF ?aO (Below.refl _ _) ?aS ?aL ?_; (case aP => exact rfl); (case aF => exact (fun _ _ => trivial)); (case aO => exact (upR a3.out)); (case aS => exact (keep_size (w := w) (g := g) (row := none) (by repeat (with_reducible first | exact HK.out | apply yae | apply keep_drewN | apply keep_drew | apply keep_alloc)))); (case aL => have := LMc13.out; omega); intro d1 w20 ho hb hg hat; rw [← Ny116.out] at ho; replace a5 := yaa (Kd.R_over' (upR a5.out) (Kd.R_typed (upR a3.out)) (by decide) hg); replace HB := yaa (below_weaken (by repeat (with_reducible first | exact HB.out | apply below_alloc | apply yaf | apply below_drew1 | refine below_set ?_ (IsS77.ge HI0.out))) HL.out hb); replace HI0 := yaa (IsS77.grown (by repeat (with_reducible first | exact HI0.out | apply yab | apply yac | apply yag | apply yad)) hg (IsS77.own_ne HI0.out a3.out (by decide))); replace HK := yaa (KeepBut.trans (by repeat (with_reducible first | exact HK.out | apply yae | apply keep_drewN | apply keep_drew | apply keep_alloc)) (KeepBut.of_grown hg g) (Kd.R_base2 a3.out)); have b5 := yaa (ho); clear a3; clear ho hb hg hat))
     go_roundg k1
     case measure => have := HK1.out; omega
     case rel => exact ⟨(y116), (wrap64 (a8 - 1)), (b7), (by first | rfl | (simp; done) | (simp [*]; done)), H', ⟨by have := HK1.out; omega⟩, ⟨by first | exact b5.out | exact upR b5.out⟩, ⟨by repeat (with_reducible first | exact HI0.out | apply yab | apply yac | apply yag | apply yad)⟩, ⟨by repeat (with_reducible first | exact HK.out | apply yae | apply keep_drewN | apply keep_drew | apply keep_alloc)⟩, ⟨by repeat (with_reducible first | exact HB.out | apply below_alloc | apply yaf | apply below_drew1 | refine below_set ?_ (IsS77.ge HI0.out))⟩⟩
    rw [if_neg c13] at H
    exact absurd H (by simp)
   rw [if_neg c12] at H
   exact absurd H (by simp)
end
section
def spec_DrawHexText.f (k : Nat) (l0 : List Int) : Option (List Int) := (spec_l20Open.f l0).bind fun bt101 => ((spec_l20Bytes.f k bt101.1 bt101.2 12).bind fun bt104 => (some bt104.1))
set_option maxHeartbeats 8000000 in
set_option maxRecDepth 100000 in
theorem spec_DrawHexText.calls (k : Nat) (A0 : Option Addr) (c0 : Nat) (l0 : List Int) (r : List Int) (w : World) (hr0 : Kd.C (Kd.int .u8) w A0 l0.length l0) (hc0 : l0.length ≤ c0) (h : spec_DrawHexText.f k l0 = some r) :
    Calls Tryz.prog 12 #[.slice A0 l0.length c0] w fun e w' => ∃ v0_ : Value, e = .returned (v0_) ∧ Kd.R (Kd.int .u8) 5 w' w.heap.size (fun _ => True) v0_ r ∧ Below w.heap.size w w' := by
  have HR0 := Aside0.mk hr0; have HC0 := Aside0.mk hc0; clear hr0 hc0; have HB := Aside0.mk (Below.refl w.heap.size w); have H : ((spec_l20Open.f l0).bind fun bt101 => ((spec_l20Bytes.f k bt101.1 bt101.2 12).bind fun bt104 => (some bt104.1))) = some r := h; clear h; obtain ⟨⟨t101, t102⟩, A2, H⟩ := bindA H; (try dsimp only at H); obtain ⟨⟨t104, t107⟩, A3, H⟩ := bindA H; (try dsimp only at H); obtain rfl := Option.some.inj H
  go_enter Tryz.func12, Tryz.ntmps12
  go_wp2_with (first | ((with_reducible refine gc_ 17 rfl ?_); refine gl_ (some 4) rfl Tryz.func17 #[.slice A0 l0.length c0] ?_; (with_reducible refine (spec_l20Open.calls _ _ l0 t101 t102 w _ ?side1 ?side2 ?side3 A2.out).mono ?_); (case side1 => exact upH HB.out); (case side2 => exact HR0.out); (case side3 => exact HC0.out); rintro e w4 ⟨g103, rfl, hi, hb, hb2⟩; refine ⟨_, rfl, ?_⟩; replace HB := Aside0.mk (hb); have HI103 := Aside0.mk (hi); (try clear hb hb2 hi)) | ((with_reducible refine gc_ 18 rfl ?_); refine gl_ (some 5) rfl Tryz.func18 #[.pointer (some ⟨g103, 0, none⟩), .int .i64 12] ?_; (with_reducible refine (spec_l20Bytes.calls k g103 t101 t102 12 t104 t107 w _ ?side1 ?side2 A3.out).mono ?_); (case side1 => repeat (with_reducible first | exact HI103.out | apply IsS77.alloc | apply IsS77.drewN | apply IsS77.drew | apply IsS77.set_1)); (case side2 => repeat (with_reducible first | exact HB.out | apply below_alloc | apply pw_below_drewN | apply below_drew1 | refine below_set ?_ (IsS77.ge HI103.out))); rintro e w5 ⟨v105, rfl, ho0, hi, hb, hk⟩; refine ⟨_, rfl, ?_⟩; have HO106 := Aside0.mk (Kd.R_lower ho0 (below_size (by repeat (with_reducible first | exact HB.out | apply below_alloc | apply pw_below_drewN | apply below_drew1 | refine below_set ?_ (IsS77.ge HI103.out))))); replace HB := Aside0.mk (hb); replace HI103 := Aside0.mk (hi); (try clear hb hk hi ho0)))
  go_ret
  exact ⟨_, by first | rfl | (simp [*, errW_none, errW_some] <;> rfl), by first | exact HO106.out | exact upR HO106.out, by repeat (with_reducible first | exact HB.out | apply below_alloc | apply pw_below_drewN | apply below_drew1 | refine below_set ?_ (IsS77.ge HI103.out))⟩
end
section
def spec_l7Cut.l0 : Nat → ByteArray → Int → List ByteArray → ByteArray → Int → Option (List ByteArray)
 | 0, _, _, _, _, _ => none
 | k + 1, x0, x1, x5, x6, x7 => if x7 < (x0.size : Int) then (if 0 ≤ x7 then (if (bt x0 x7) = x1 then (if x5.length < 8796093022208 then (spec_l7Cut.l0 k x0 x1 (x5 ++ [x6]) (⟨#[]⟩ : ByteArray) (wrap64 (x7 + 1))) else (none)) else (if x7 ≤ (wrap64 (x7 + 1)) then (if (wrap64 (x7 + 1)) ≤ (x0.size : Int) then (if x6.size + (x0.extract (x7 : Int).toNat ((wrap64 (x7 + 1)) : Int).toNat).size ≤ 9223372036854775807 then (spec_l7Cut.l0 k x0 x1 x5 (x6 ++ (x0.extract (x7 : Int).toNat ((wrap64 (x7 + 1)) : Int).toNat)) (wrap64 (x7 + 1))) else (none)) else (none)) else (none))) else (none)) else (if x5.length < 8796093022208 then (some (x5 ++ [x6])) else (none))
def spec_l7Cut.f (k : Nat) (a0 : ByteArray) (a1 : Int) : Option (List ByteArray) := spec_l7Cut.l0 k a0 a1 (([] : List ByteArray)) (⟨#[]⟩ : ByteArray) 0
set_option maxHeartbeats 8000000 in
set_option maxRecDepth 100000 in
theorem spec_l7Cut.calls (k : Nat) (a0 : ByteArray) (a1 : Int) (r : List ByteArray) (w : World) (h : spec_l7Cut.f k a0 a1 = some r) :
  Calls Tryz.prog 37 #[.string a0, .int .u8 a1] w fun e w' => ∃ v0_ : Value, e = .returned (v0_) ∧ Kd.R Kd.string 9 w' w.heap.size (fun _ => True) v0_ r ∧ Below w.heap.size w w' := by
 have HB := Aside0.mk (Below.refl w.heap.size w); have H : (spec_l7Cut.l0 k a0 a1 (([] : List ByteArray)) (⟨#[]⟩ : ByteArray) 0) = some r := h; clear h; obtain ⟨y101, hy101⟩ : ∃ y_ : List ByteArray, y_ = (([] : List ByteArray)) := ⟨_, rfl⟩
 replace H : (spec_l7Cut.l0 k a0 a1 y101 (⟨#[]⟩ : ByteArray) 0) = some r := by first | (rw [hy101]; with_reducible exact H) | (have H2_ := (Option.bind_some _ _).symm.trans H; rw [hy101]; with_reducible exact H2_) | (have H2_ := (Option.bind_some _ _).symm.trans H; with_reducible exact H2_) | with_reducible exact H | (rw [hy101]; exact H) | exact H
 have Ny101 := Aside0.mk hy101; clear hy101; have H' := Aside0.mk H; clear H
 go_enter Tryz.func37, Tryz.ntmps37
 go_wp2_with (first | ((with_reducible refine gd_ 8 rfl ?_); refine Kd.R_lit Kd.string _ 9 ?hg (N := 8) ?hd (xs := ([] : List ByteArray)) (inner := []) (ok := fun _ => True) (okp := fun _ => True) ?hr ?hp (fun _ hk => hk) trivial (Below.refl _ _) (Nat.le_refl _) (by simp) ?_; (case hd => rfl); (case hg => rfl); (case hr => first | (go_simp; done) | (go_simp; rfl)); (case hp => exact (Reps.none _ _)); intro c0 w3 ho4 hb hg_ hnew_; clear hg_ hnew_; (first | rw [← Ny101.out] at ho4 | (simp only [Int.reduceToNat] at ho4; rw [← Ny101.out] at ho4)); have a6 := Aside0.mk (Kd.R_lower ho4 (below_size (upH HB.out))); replace HB := Aside0.mk (below_step (upH HB.out) hb); clear hb ho4))
 (try simp only [Act.put, List.setIfInBounds_toArray, List.set_cons_zero, List.set_cons_succ])
 go_loopg [5, 6, 7] k (fun kq v5 v6 v7 w' => ∃ (a4 : List ByteArray) (a3 : ByteArray) (a2 : Int), v6 = .string a3 ∧ v7 = .int .i64 a2 ∧ Aside0 (spec_l7Cut.l0 kq a0 a1 a4 a3 a2 = some r) ∧ Aside0 (kq ≤ k) ∧ Aside0 (Kd.R Kd.string 9 w' w.heap.size (fun _ => True) v5 a4) ∧ Aside0 (Below w.heap.size w w'))
 case atStart => exact ⟨(y101), ((⟨#[]⟩ : ByteArray)), (0), (by first | rfl | (simp; done) | (simp [*]; done)), (by first | rfl | (simp; done) | (simp [*]; done)), H', ⟨Nat.le_refl _⟩, ⟨by first | exact a6.out | exact upR a6.out⟩, ⟨upH HB.out⟩⟩
 case round =>
  clear H'; (try clear p2); (try clear c3); obtain ⟨a4, a3, a2, rfl, rfl, HA, HK1, a5, HB⟩ := hrel
  cases gk with
  | zero => exact absurd HA.out (by simp [spec_l7Cut.l0])
  | succ k1 =>
   have H := HA.out; clear HA
   simp only [spec_l7Cut.l0] at H
   by_cases c5 : a2 < (a0.size : Int)
   rotate_left
   ·
    rw [if_neg c5] at H
    have a9 : decide (a2 < (a0.size : Int)) = false := decide_eq_false c5; clear c5
    by_cases c15 : a4.length < 8796093022208
    ·
     rw [if_pos c15] at H
     have LMc15 := Aside0.mk c15; clear c15; obtain ⟨y107, hy107⟩ : ∃ y_ : List ByteArray, y_ = (a4 ++ [a3]) := ⟨_, rfl⟩
     replace H : (some y107) = some r := by first | (rw [hy107]; with_reducible exact H) | (have H2_ := (Option.bind_some _ _).symm.trans H; rw [hy107]; with_reducible exact H2_) | (have H2_ := (Option.bind_some _ _).symm.trans H; with_reducible exact H2_) | with_reducible exact H | (rw [hy107]; exact H) | exact H
     have Ny107 := Aside0.mk hy107; clear hy107; obtain rfl := Option.some.inj H
     go_wp2_with (first | ((with_reducible refine gate_builtin (b := .append) (xs := #[.tmp 31, .tmp 33]) rfl ?_); at_builtin; refine Kd.R_append Kd.string (w0 := w) w.heap.size rfl (.tmp 31) (.tmp 33) 58 9 (.string ⟨#[]⟩) 16 rfl Tryz.underlying58 info9 rfl (by decide) (by omega) u5 a4 a3 [.string a3] (fun _ => True) (fun _ => False) rfl rfl ?aP (fun _ hk => hk.elim) ?aF ?aO ?aB ?aS ?aL ?_; (case aP => exact rfl); (case aB => exact (upH HB.out)); (case aF => exact (fun _ _ => trivial)); (case aO => exact (upR a5.out)); (case aS => exact (below_size (upH HB.out))); (case aL => have := LMc15.out; omega); intro c2 w16 ho hb hg hat; rw [← Ny107.out] at ho; replace HB := Aside0.mk (hb); have a8 := Aside0.mk (ho); clear a5; clear ho hb hg hat))
     go_ret
     exact ⟨_, by first | rfl | (simp [*, errW_none, errW_some] <;> rfl), by first | exact a8.out | exact upR a8.out, upH HB.out⟩
    rw [if_neg c15] at H
    exact absurd H (by simp)
   rw [if_pos c5] at H
   have a9 : decide (a2 < (a0.size : Int)) = true := decide_eq_true c5; clear c5
   by_cases c6 : 0 ≤ a2
   rotate_left
   ·
    rw [if_neg c6] at H
    exact absurd H (by simp)
   rw [if_pos c6] at H
   replace c6 := decide_eq_true c6
   by_cases c8 : (bt a0 a2) = a1
   ·
    rw [if_pos c8] at H
    have b0 := beq_iff_eq.mpr c8; have b1 := bne_eq_false_iff_eq.mpr c8; clear c8
    by_cases c9 : a4.length < 8796093022208
    ·
     rw [if_pos c9] at H
     have LMc9 := Aside0.mk c9; clear c9; obtain ⟨y104, hy104⟩ : ∃ y_ : List ByteArray, y_ = (a4 ++ [a3]) := ⟨_, rfl⟩
     replace H : (spec_l7Cut.l0 k1 a0 a1 y104 (⟨#[]⟩ : ByteArray) (wrap64 (a2 + 1))) = some r := by first | (rw [hy104]; with_reducible exact H) | (have H2_ := (Option.bind_some _ _).symm.trans H; rw [hy104]; with_reducible exact H2_) | (have H2_ := (Option.bind_some _ _).symm.trans H; with_reducible exact H2_) | with_reducible exact H | (rw [hy104]; exact H) | exact H
     have Ny104 := Aside0.mk hy104; clear hy104; have H' := Aside0.mk H; clear H; have p7 : 0 ≤ (a2 : Int) := of_decide_eq_true (by assumption); have q7 : a2 < (a0.size : Int) := of_decide_eq_true (by assumption); have hx7 := bt_at a0 a2; replace p7 := eq_true p7; replace q7 := eq_true q7
     go_wp2_with (first | ((with_reducible refine gate_builtin (b := .append) (xs := #[.tmp 20, .tmp 22]) rfl ?_); at_builtin; refine Kd.R_append Kd.string (w0 := w) w.heap.size rfl (.tmp 20) (.tmp 22) 58 9 (.string ⟨#[]⟩) 16 rfl Tryz.underlying58 info9 rfl (by decide) (by omega) u5 a4 a3 [.string a3] (fun _ => True) (fun _ => False) rfl rfl ?aP (fun _ hk => hk.elim) ?aF ?aO ?aB ?aS ?aL ?_; (case aP => exact rfl); (case aB => exact (upH HB.out)); (case aF => exact (fun _ _ => trivial)); (case aO => exact (upR a5.out)); (case aS => exact (below_size (upH HB.out))); (case aL => have := LMc9.out; omega); intro c1 w10 ho hb hg hat; rw [← Ny104.out] at ho; replace HB := Aside0.mk (hb); have a7 := Aside0.mk (ho); clear a5; clear ho hb hg hat))
     go_roundg k1
     case measure => have := HK1.out; omega
     case rel => exact ⟨(y104), ((⟨#[]⟩ : ByteArray)), (wrap64 (a2 + 1)), (by first | rfl | (simp; done) | (simp [*]; done)), (by first | rfl | (simp; done) | (simp [*]; done)), H', ⟨by have := HK1.out; omega⟩, ⟨by first | exact a7.out | exact upR a7.out⟩, ⟨upH HB.out⟩⟩
    rw [if_neg c9] at H
    exact absurd H (by simp)
   rw [if_neg c8] at H
   have b0 := beq_eq_false_iff_ne.mpr c8; have b1 := bne_iff_ne.mpr c8; have b2 := eq_true (of_decide_eq_true (by assumption) : 0 ≤ a2)
   by_cases c12 : a2 ≤ (wrap64 (a2 + 1))
   ·
    rw [if_pos c12] at H
    have b3 := eq_true c12; have b4 : decide (a2 ≤ (wrap64 (a2 + 1))) = true := decide_eq_true c12
    by_cases c13 : (wrap64 (a2 + 1)) ≤ (a0.size : Int)
    ·
     rw [if_pos c13] at H
     have b5 := eq_true c13; have b6 : decide ((wrap64 (a2 + 1)) ≤ (a0.size : Int)) = true := decide_eq_true c13
     by_cases c14 : a3.size + (a0.extract (a2 : Int).toNat ((wrap64 (a2 + 1)) : Int).toNat).size ≤ 9223372036854775807
     ·
      rw [if_pos c14] at H
      have b7 := eq_true c14; have b8 : decide (a3.size + (a0.extract (a2 : Int).toNat ((wrap64 (a2 + 1)) : Int).toNat).size ≤ 9223372036854775807) = true := decide_eq_true c14
      try have b9 : (9223372036854775807 < a3.size + (a0.extract (a2 : Int).toNat ((wrap64 (a2 + 1)) : Int).toNat).size) = False := eq_false (Nat.not_lt.2 c14)
      have H' := Aside0.mk H; clear H; have p7 : 0 ≤ (a2 : Int) := of_decide_eq_true (by assumption); have q7 : a2 < (a0.size : Int) := of_decide_eq_true (by assumption); have hx7 := bt_at a0 a2; replace p7 := eq_true p7; replace q7 := eq_true q7
      go_wp2
      go_roundg k1
      case measure => have := HK1.out; omega
      case rel => exact ⟨(a4), (a3 ++ (a0.extract (a2 : Int).toNat ((wrap64 (a2 + 1)) : Int).toNat)), (wrap64 (a2 + 1)), (by first | rfl | (simp; done) | (simp [*]; done)), (by first | rfl | (simp; done) | (simp [*]; done)), H', ⟨by have := HK1.out; omega⟩, ⟨by first | exact a5.out | exact upR a5.out⟩, ⟨upH HB.out⟩⟩
     rw [if_neg c14] at H
     exact absurd H (by simp)
    rw [if_neg c13] at H
    exact absurd H (by simp)
   rw [if_neg c12] at H
   exact absurd H (by simp)
end
section
mutual
def spec_l7Num.j0 : Nat → ByteArray → Bool → Option (Int)
 | 0, _, _ => none
 | k + 1, x0, x12 => if x12 = true then (some (-1)) else (spec_l7Num.l0 k x0 0 0)
def spec_l7Num.l0 : Nat → ByteArray → Int → Int → Option (Int)
 | 0, _, _, _ => none
 | k + 1, x0, x3, x4 => if x4 < (x0.size : Int) then (if 0 ≤ x4 then (if (bt x0 x4) < 48 then (some (-1)) else (if (bt x0 x4) > 57 then (some (-1)) else (spec_l7Num.l0 k x0 (wrap64 ((wrap64 (x3 * 10)) + (((bt x0 x4) - 48) % 256))) (wrap64 (x4 + 1))))) else (none)) else ((spec_l7Plain.f k x3).bind fun t101 => (if t101.toList = x0.toList then (some x3) else (some (-1))))
end
def spec_l7Num.f (k : Nat) (a0 : ByteArray) : Option (Int) := if (a0.size : Int) = 0 then (spec_l7Num.j0 k a0 true) else (spec_l7Num.j0 k a0 (decide ((a0.size : Int) > 4)))
set_option maxHeartbeats 8000000 in
set_option maxRecDepth 100000 in
theorem spec_l7Num.calls (k : Nat) (a0 : ByteArray) (r : Int) (w : World) (h : spec_l7Num.f k a0 = some r) :
  Calls Tryz.prog 39 #[.string a0] w fun e w' => e = .returned (.int .i64 r) ∧ Below w.heap.size w w' := by
 have HB := Aside0.mk (Below.refl w.heap.size w); have H : (if (a0.size : Int) = 0 then (spec_l7Num.j0 k a0 true) else (spec_l7Num.j0 k a0 (decide ((a0.size : Int) > 4)))) = some r := h; clear h; have HC2 := Aside0.mk H; clear H
 go_enter Tryz.func39, Tryz.ntmps39
 go_upto_region 1 with (fail)
 go_cut [12] (fun v12 wc => ∃ (kq : Nat) (a4 : Bool), v12 = .bool a4 ∧ Aside0 (spec_l7Num.j0 kq a0 a4 = some r) ∧ Aside0 (kq ≤ k) ∧ Aside0 (Below w.heap.size w wc))
 case first =>
  have H := HC2.out; clear HC2
  by_cases c3 : (a0.size : Int) = 0
  ·
   rw [if_pos c3] at H
   have a3 := beq_iff_eq.mpr c3; have a5 := bne_eq_false_iff_eq.mpr c3; clear c3
   (first | rw [a3] | (simp only [i64_w, i32_w]; rw [a3]) | skip)
   have H' := Aside0.mk H; clear H
   go_wp2
   go_meet
   case rel => exact ⟨_, (true), (by first | rfl | (simp; done) | (simp [*]; done)), H', ⟨by first | omega | exact Nat.le_refl _⟩, ⟨upH HB.out⟩⟩
  rw [if_neg c3] at H
  have a3 := beq_eq_false_iff_ne.mpr c3; have a5 := bne_iff_ne.mpr c3
  (first | rw [a3] | (simp only [i64_w, i32_w]; rw [a3]) | skip)
  have H' := Aside0.mk H; clear H
  go_wp2
  go_meet
  case rel => exact ⟨_, (decide ((a0.size : Int) > 4)), (by first | rfl | (simp; done) | (simp [*]; done)), H', ⟨by first | omega | exact Nat.le_refl _⟩, ⟨upH HB.out⟩⟩
 case rest =>
  clear HC2; (try clear p2); (try clear c3); (try clear a3); (try clear a5); obtain ⟨kq, a4, rfl, HA, HJ1, HB⟩ := hcut
  cases kq with
  | zero => exact absurd HA.out (by simp [spec_l7Num.j0])
  | succ kj1 =>
   have H := HA.out; clear HA
   simp only [spec_l7Num.j0] at H
   by_cases c4 : a4 = true
   ·
    subst c4
    rw [if_pos rfl] at H
    obtain rfl := Option.some.inj H
    go_wp2
    go_ret
    exact ⟨by first | rfl | (simp [*, errW_none, errW_some] <;> rfl), upH HB.out⟩
   replace c4 := Bool.eq_false_iff.mpr c4
   subst c4
   rw [if_neg (show ¬ (false = true) by decide)] at H
   have H' := Aside0.mk H; clear H
   go_wp2
   (try simp only [Act.put, List.setIfInBounds_toArray, List.set_cons_zero, List.set_cons_succ])
   go_loopg [3, 4] kj1 (fun kq v3 v4 w' => ∃ (a2 : Int) (a1 : Int), v3 = .int .i64 a2 ∧ v4 = .int .i64 a1 ∧ Aside0 (spec_l7Num.l0 kq a0 a2 a1 = some r) ∧ Aside0 (kq ≤ kj1) ∧ Aside0 (Below w.heap.size w w'))
   case atStart => exact ⟨(0), (0), (by first | rfl | (simp; done) | (simp [*]; done)), (by first | rfl | (simp; done) | (simp [*]; done)), H', ⟨Nat.le_refl _⟩, ⟨upH HB.out⟩⟩
   case round =>
    clear H'; (try clear p2); (try clear c3); (try clear a3); (try clear a5); (try clear c4); (try clear p2); obtain ⟨a2, a1, rfl, rfl, HA, HK2, HB⟩ := hrel
    cases gk with
    | zero => exact absurd HA.out (by simp [spec_l7Num.l0])
    | succ k2 =>
     have H := HA.out; clear HA
     simp only [spec_l7Num.l0] at H
     by_cases c5 : a1 < (a0.size : Int)
     ·
      rw [if_pos c5] at H
      have b0 : decide (a1 < (a0.size : Int)) = true := decide_eq_true c5; clear c5
      by_cases c6 : 0 ≤ a1
      rotate_left
      ·
       rw [if_neg c6] at H
       exact absurd H (by simp)
      rw [if_pos c6] at H
      replace c6 := decide_eq_true c6
      by_cases c8 : (bt a0 a1) < 48
      ·
       rw [if_pos c8] at H
       have b1 : decide ((bt a0 a1) < 48) = true := decide_eq_true c8; clear c8; obtain rfl := Option.some.inj H; have p7 : 0 ≤ (a1 : Int) := of_decide_eq_true (by assumption); have q7 : a1 < (a0.size : Int) := of_decide_eq_true (by assumption); have hx7 := bt_at a0 a1; replace p7 := eq_true p7; replace q7 := eq_true q7
       go_wp2
       go_ret
       exact ⟨by first | rfl | (simp [*, errW_none, errW_some] <;> rfl), upH HB.out⟩
      rw [if_neg c8] at H
      have b1 : decide ((bt a0 a1) < 48) = false := decide_eq_false c8; clear c8
      by_cases c10 : (bt a0 a1) > 57
      ·
       rw [if_pos c10] at H
       have a7 : decide (57 < (bt a0 a1)) = true := decide_eq_true c10; clear c10; obtain rfl := Option.some.inj H; have p7 : 0 ≤ (a1 : Int) := of_decide_eq_true (by assumption); have q7 : a1 < (a0.size : Int) := of_decide_eq_true (by assumption); have hx7 := bt_at a0 a1; replace p7 := eq_true p7; replace q7 := eq_true q7; have p9 : 0 ≤ (a1 : Int) := of_decide_eq_true (by assumption); have q9 : a1 < (a0.size : Int) := of_decide_eq_true (by assumption); have hx9 := bt_at a0 a1; replace p9 := eq_true p9; replace q9 := eq_true q9
       go_wp2
       go_ret
       exact ⟨by first | rfl | (simp [*, errW_none, errW_some] <;> rfl), upH HB.out⟩
      rw [if_neg c10] at H
      have a7 : decide (57 < (bt a0 a1)) = false := decide_eq_false c10; clear c10; have H' := Aside0.mk H; clear H; have p7 : 0 ≤ (a1 : Int) := of_decide_eq_true (by assumption); have q7 : a1 < (a0.size : Int) := of_decide_eq_true (by assumption); have hx7 := bt_at a0 a1; replace p7 := eq_true p7; replace q7 := eq_true q7; have p9 : 0 ≤ (a1 : Int) := of_decide_eq_true (by assumption); have q9 : a1 < (a0.size : Int) := of_decide_eq_true (by assumption); have hx9 := bt_at a0 a1; replace p9 := eq_true p9; replace q9 := eq_true q9; have p11 : 0 ≤ (a1 : Int) := of_decide_eq_true (by assumption); have q11 : a1 < (a0.size : Int) := of_decide_eq_true (by assumption); have b2 := bt_at a0 a1; replace p11 := eq_true p11; replace q11 := eq_true q11
      go_wp2
      go_roundg k2
      case measure => have := HJ1.out; have := HK2.out; omega
      case rel => exact ⟨(wrap64 ((wrap64 (a2 * 10)) + (((bt a0 a1) - 48) % 256))), (wrap64 (a1 + 1)), (by first | rfl | (simp; done) | (simp [*]; done)), (by first | rfl | (simp; done) | (simp [*]; done)), H', ⟨by have := HJ1.out; have := HK2.out; omega⟩, ⟨upH HB.out⟩⟩
     rw [if_neg c5] at H
     have b0 : decide (a1 < (a0.size : Int)) = false := decide_eq_false c5; clear c5; obtain ⟨a6, A12, H⟩ := bindA H; (try dsimp only at H)
     by_cases c13 : a6.toList = a0.toList
     ·
      rw [if_pos c13] at H
      have a8 := beq_iff_eq.mpr c13; have a9 := bne_eq_false_iff_eq.mpr c13; clear c13; obtain rfl := Option.some.inj H
      go_wp2_with (first | ((with_reducible refine gc_ 52 rfl ?_); refine gl_ (some 38) rfl Tryz.func52 #[.int .i64 a2] ?_; (with_reducible refine (spec_l7Plain.calls k2 a2 a6 _ A12.out).mono ?_); rintro e w14 ⟨rfl, hb⟩; refine ⟨_, rfl, ?_⟩; replace HB := Aside0.mk (below_step (upH HB.out) hb); (try clear hb)))
      go_ret
      exact ⟨by first | rfl | (simp [*, errW_none, errW_some] <;> rfl), upH HB.out⟩
     rw [if_neg c13] at H
     have a8 := beq_eq_false_iff_ne.mpr c13; have a9 := bne_iff_ne.mpr c13; obtain rfl := Option.some.inj H
     go_wp2_with (first | ((with_reducible refine gc_ 52 rfl ?_); refine gl_ (some 38) rfl Tryz.func52 #[.int .i64 a2] ?_; (with_reducible refine (spec_l7Plain.calls k2 a2 a6 _ A12.out).mono ?_); rintro e w15 ⟨rfl, hb⟩; refine ⟨_, rfl, ?_⟩; replace HB := Aside0.mk (below_step (upH HB.out) hb); (try clear hb)))
     go_ret
     exact ⟨by first | rfl | (simp [*, errW_none, errW_some] <;> rfl), upH HB.out⟩
end
section
open Go.Proofs.YtmplnpjdbfedbaaGreatDoorW.PrintWords.Kd renaming own_blk → yaa, R_ne → yab, R_reads' → yak
open Go.Proofs.YtmplnpjdbfedbaaGreatDoorW.PrintWords renaming add_block → yac, cell_far → yae, pw_below_drewN → yaf, below_drew1 → yag, below_alloc → yah, below_set → yai, blk_frozen → yaj, blk_put → yal
open Go.Proofs.YtmplnpjdbfedbaaGreatDoorW.PrintWords.Aside0 renaming mk → yad
abbrev q72_0 : Array Bool := Array.replicate 16 false
abbrev q72_1 : Array Bool := bl_ 16 1
abbrev q72_2 : Array Bool := bl_ 16 3
abbrev q72_3 : Array Bool := bl_ 16 7
abbrev q72_4 : Array Bool := bl_ 16 23
abbrev q72_5 : Array Bool := bl_ 16 55
abbrev q72_6 : Array Bool := bl_ 16 183
abbrev q72_7 : Array Bool := bl_ 16 439
abbrev q72_8 : Array Bool := bl_ 16 1463
abbrev q72_9 : Array Bool := bl_ 16 3511
abbrev q72_10 : Array Bool := bl_ 16 3519
abbrev q72_11 : Array Bool := bl_ 16 3583
abbrev q72_12 : Array Bool := bl_ 16 4095
abbrev q72_13 : Array Bool := bl_ 16 8191
abbrev q72_14 : Array Bool := bl_ 16 16383
abbrev q72_15 : Array Bool := bl_ 16 32767
abbrev q72_16 : Array Bool := bl_ 16 65535
mutual
def spec_OpRead.j1 : Nat → ByteArray → List Int → Option (Int × Int × Int × Int × Int × Bool)
 | 0, _, _ => none
 | k + 1, x0, x5 => spec_OpRead.l1 k x0 x5 1
def spec_OpRead.l1 : Nat → ByteArray → List Int → Int → Option (Int × Int × Int × Int × Int × Bool)
 | 0, _, _, _ => none
 | k + 1, x0, x5, x7 => if x7 ≤ 8 then (if 0 < (x5.length : Int) then (if 1 < (x5.length : Int) then (if 2 < (x5.length : Int) then (if 3 < (x5.length : Int) then ((spec_OpText.f k x7 (rd x5 0) (rd x5 1) (rd x5 2) (rd x5 3)).bind fun t116 => (if t116.toList = x0.toList then (if x0.toList = ([] : List UInt8) then (spec_OpRead.l1 k x0 x5 (wrap64 (x7 + 1))) else (some (x7, rd x5 0, rd x5 1, rd x5 2, rd x5 3, true))) else (spec_OpRead.l1 k x0 x5 (wrap64 (x7 + 1))))) else (none)) else (none)) else (none)) else (none)) else (some (0, 0, 0, 0, 0, false))
def spec_OpRead.l0 : Nat → ByteArray → List ByteArray → List Int → Int → Option (Int × Int × Int × Int × Int × Bool)
 | 0, _, _, _, _ => none
 | k + 1, x0, x4, x5, x6 => if x6 < (x4.length : Int) then (if x6 < 5 then (if 0 ≤ x6 then ((spec_l7Num.f k (rdOf ByteArray.empty x4 x6)).bind fun t109 => (if 0 ≤ (wrap64 (x6 - 1)) then (if (wrap64 (x6 - 1)) < (x5.length : Int) then (spec_OpRead.l0 k x0 x4 (x5.set ((wrap64 (x6 - 1)) : Int).toNat t109) (wrap64 (x6 + 1))) else (none)) else (none))) else (none)) else (spec_OpRead.j1 k x0 x5)) else (spec_OpRead.j1 k x0 x5)
end
def spec_OpRead.f (k : Nat) (a0 : ByteArray) : Option (Int × Int × Int × Int × Int × Bool) := (spec_l7Cut.f k a0 46).bind fun t102 => (spec_OpRead.l0 k a0 t102 (([0, 0, 0, 0] : List Int)) 1)
def spec_OpRead.T10 : Bool × List (List Nat × List Nat) := (true, [([], []), ([], []), ([1], [1]), ([2], [2]), ([], []), ([4], [4]), ([5], [5]), ([], []), ([7], [7]), ([8], [8]), ([], []), ([10], [10]), ([11], [11]), ([0, 3, 6, 9, 12], [0, 3, 6, 9, 12]), ([], []), ([14, 13, 0, 1, 2, 3, 4, 5, 6, 7, 8, 9, 10, 11, 12, 13, 14], [13, 14])])
def spec_OpRead.B10 : List Nat := [0, 0, 2, 6, 0, 16, 48, 0, 128, 384, 0, 1024, 3072, 8191, 0, 32767]
theorem spec_OpRead.tab10 : rtab .any (opsOf Tryz.f72 10) = spec_OpRead.T10 := by kernel_rfl
theorem spec_OpRead.bits10 : waitsOk spec_OpRead.T10.2 spec_OpRead.B10 = true := by kernel_rfl
theorem ld5_ {ev : Operand → Value} {W : World} {b : Nat} {x0 x1 x2 x3 x4 : Int} (N : Tmp) {ps : String} (he : ev (.tmp 8) = .pointer (some ⟨b, 0, none⟩)) (h : W.heap[b]? = some (.cells #[.int .i64 x0, .int .i64 x1, .int .i64 x2, .int .i64 x3, .int .i64 x4] 65 (0, 0))) : (execOp ev { dst := some N, op := .load 65 (.tmp 8), type := 65, pos := ps, after := #[], guard := none }).run Tryz.prog W = .ok (.value (.agg #[.int .i64 x0, .int .i64 x1, .int .i64 x2, .int .i64 x3, .int .i64 x4])) W := by
 have hu := Tryz.underlying65
 obtain ⟨a0, a1, a2, a3, a4⟩ := cc5_ h; clear h
 go_simp
theorem st5_ {ev : Operand → Value} {W : World} {b : Nat} {x0 x1 x2 x3 x4 c0 c1 c2 c3 c4 : Int} {ps : String} {af : Array Edge} (he : ev (.tmp 8) = .pointer (some ⟨b, 0, none⟩)) (hv : ev (.tmp 48) = .agg #[.int .i64 c0, .int .i64 c1, .int .i64 c2, .int .i64 c3, .int .i64 c4]) (h : W.heap[b]? = some (.cells #[.int .i64 x0, .int .i64 x1, .int .i64 x2, .int .i64 x3, .int .i64 x4] 65 (0, 0))) : (execOp ev { dst := none, op := .store 65 (.tmp 8) (.tmp 48), type := 0, pos := ps, after := af, guard := none }).run Tryz.prog W = .ok .skip (((((W.setCell ⟨b, 0, none⟩ (.int .i64 c0)).setCell ⟨b, 1, none⟩ (.int .i64 c1)).setCell ⟨b, 2, none⟩ (.int .i64 c2)).setCell ⟨b, 3, none⟩ (.int .i64 c3)).setCell ⟨b, 4, none⟩ (.int .i64 c4)) := by
 have hu := Tryz.underlying65
 obtain ⟨a0, a1, a2, a3, a4⟩ := cc5_ h; obtain ⟨f0, f1, f2, f3, f4⟩ := cf5_ h; clear h
 go_simp
theorem cell5_ {W : World} {b : Nat} {c0 c1 c2 c3 c4 v : Value} {a : Addr} (h : a.block ≠ b) (hc : W.cell? a = some v) : (((((W.setCell ⟨b, 0, none⟩ c0).setCell ⟨b, 1, none⟩ c1).setCell ⟨b, 2, none⟩ c2).setCell ⟨b, 3, none⟩ c3).setCell ⟨b, 4, none⟩ c4).cell? a = some v :=
 (cell_far (p := ⟨b, 4, none⟩) h _).trans ((cell_far (p := ⟨b, 3, none⟩) h _).trans ((cell_far (p := ⟨b, 2, none⟩) h _).trans ((cell_far (p := ⟨b, 1, none⟩) h _).trans ((cell_far (p := ⟨b, 0, none⟩) h _).trans hc))))
set_option maxHeartbeats 8000000 in
set_option maxRecDepth 100000 in
theorem spec_OpRead.calls (k : Nat) (a0 : ByteArray) (r1 : Int) (r2 : Int) (r3 : Int) (r4 : Int) (r5 : Int) (r6 : Bool) (w : World) (h : spec_OpRead.f k a0 = some (r1, r2, r3, r4, r5, r6)) :
  Calls Tryz.prog 72 #[.string a0] w fun e w' => e = .returned (.tuple #[.agg #[.int .i64 r1, .int .i64 r2, .int .i64 r3, .int .i64 r4, .int .i64 r5], .bool r6]) ∧ Below w.heap.size w w' := by
 have hu65 := Tryz.underlying65; have HB := yad (Below.refl w.heap.size w); have H : ((spec_l7Cut.f k a0 46).bind fun c0 => (spec_OpRead.l0 k a0 c0 (([0, 0, 0, 0] : List Int)) 1)) = some (r1, r2, r3, r4, r5, r6) := h; clear h; obtain ⟨c0, A2, H⟩ := bindA H; (try dsimp only at H); obtain ⟨y105, hy105⟩ : ∃ y_ : List Int, y_ = (([0, 0, 0, 0] : List Int)) := ⟨_, rfl⟩
 replace H : (spec_OpRead.l0 k a0 c0 y105 1) = some (r1, r2, r3, r4, r5, r6) := by first | (rw [hy105]; with_reducible exact H) | (have H2_ := (Option.bind_some _ _).symm.trans H; rw [hy105]; with_reducible exact H2_) | (have H2_ := (Option.bind_some _ _).symm.trans H; with_reducible exact H2_) | with_reducible exact H | (rw [hy105]; exact H) | exact H
 have Ny105 := yad hy105; clear hy105; have HC3 := yad H; clear H
 go_enter Tryz.func72, Tryz.ntmps72
 go_upto_block 0 with (first | ((with_reducible refine gd_ 2 rfl ?_); refine bx_ 2 rfl #[.int .i64 0, .int .i64 0, .int .i64 0, .int .i64 0, .int .i64 0] 65 ?_; intro b8 hg w4 hbox hb; have a5 := yad (hbox); have e5 := yad ((by rw [hg]; exact (below_size (upH HB.out)) : w.heap.size ≤ b8)); replace HB := yad (below_step (upH HB.out) hb); have q6 := e5; clear hb hbox hg) | ((with_reducible refine gc_ 37 rfl ?_); refine gl_ (some 10) rfl Tryz.func37 #[.string a0, .int .u8 46] ?_; (with_reducible refine (spec_l7Cut.calls k a0 46 c0 _ A2.out).mono ?_); rintro e w5 ⟨p8, rfl, ho0, hb⟩; refine ⟨_, rfl, ?_⟩; have c6 := yad (Kd.R_lower ho0 (below_size (by repeat (with_reducible first | exact HB.out | apply yah | apply yaf | apply yag | refine yai ?_ (Aside0.out ‹_›))))); replace a5 := yad (blk_below (upB a5.out) hb); replace HB := yad (below_step (by repeat (with_reducible first | exact HB.out | apply yah | apply yaf | apply yag | refine yai ?_ (Aside0.out ‹_›))) hb); (try clear hb ho0)) | ((with_reducible refine gd_ 11 rfl ?_); refine Kd.R_lit (Kd.int .i64) _ 3 ?hg (N := 11) ?hd (xs := ([0, 0, 0, 0] : List Int)) (inner := [.int .i64 0, .int .i64 0, .int .i64 0, .int .i64 0]) (ok := fun _ => True) (okp := fun _ => True) ?hr ?hp (fun _ hk => hk) trivial (Below.refl _ _) (Nat.le_refl _) (by simp) ?_; (case hd => rfl); (case hg => rfl); (case hr => first | (go_simp; done) | (go_simp; rfl)); (case hp => exact (Reps.one (show Kd.M (Kd.int .i64) _ _ _ 0 [.int .i64 0] from rfl) (Reps.one (show Kd.M (Kd.int .i64) _ _ _ 0 [.int .i64 0] from rfl) (Reps.one (show Kd.M (Kd.int .i64) _ _ _ 0 [.int .i64 0] from rfl) (Reps.one (show Kd.M (Kd.int .i64) _ _ _ 0 [.int .i64 0] from rfl) (Reps.none _ _)))))); intro e3 w6 ho7 hb hg_ hnew_; clear hg_ hnew_; (first | rw [← Ny105.out] at ho7 | (simp only [Int.reduceToNat] at ho7; rw [← Ny105.out] at ho7)); replace c6 := yad (Kd.R_below (upR c6.out) hb); have e0 := yad (Kd.R_lower ho7 (below_size (by repeat (with_reducible first | exact HB.out | apply yah | apply yaf | apply yag | refine yai ?_ (Aside0.out ‹_›))))); replace a5 := yad (blk_below (upB a5.out) hb); replace HB := yad (below_step (by repeat (with_reducible first | exact HB.out | apply yah | apply yaf | apply yag | refine yai ?_ (Aside0.out ‹_›))) hb); clear hb ho7))
 (try simp only [Act.put, List.setIfInBounds_toArray, List.set_cons_zero, List.set_cons_succ])
 go_cut [] (fun wc => ∃ (kq : Nat) (a4 : List Int), Aside0 (spec_OpRead.j1 kq a0 a4 = some (r1, r2, r3, r4, r5, r6)) ∧ Aside0 (kq ≤ k) ∧ Aside0 (Kd.R (Kd.int .i64) 3 wc w.heap.size (fun _ => True) e3 a4) ∧ Aside0 (wc.heap[b8]? = some (.cells #[.int .i64 0, .int .i64 0, .int .i64 0, .int .i64 0, .int .i64 0] 65 (0, 0))) ∧ Aside0 (Below w.heap.size w wc))
 case first =>
  have H := HC3.out; clear HC3; have H' := yad H; clear H
  go_wp2
  (try simp only [Act.put, List.setIfInBounds_toArray, List.set_cons_zero, List.set_cons_succ])
  go_loopg [6] k (fun kq v6 w' => ∃ (c2 : List Int) (b9 : Int), v6 = .int .i64 b9 ∧ Aside0 (spec_OpRead.l0 kq a0 c0 c2 b9 = some (r1, r2, r3, r4, r5, r6)) ∧ Aside0 (kq ≤ k) ∧ Aside0 (Kd.R Kd.string 9 w' w.heap.size (fun _ => True) p8 c0) ∧ Aside0 (Kd.R (Kd.int .i64) 3 w' w.heap.size (fun _ => True) e3 c2) ∧ Aside0 (w'.heap[b8]? = some (.cells #[.int .i64 0, .int .i64 0, .int .i64 0, .int .i64 0, .int .i64 0] 65 (0, 0))) ∧ Aside0 (Below w.heap.size w w'))
  case atStart => exact ⟨(y105), (1), (by first | rfl | (simp; done) | (simp [*]; done)), H', ⟨Nat.le_refl _⟩, ⟨by first | exact c6.out | exact upR c6.out⟩, ⟨by first | exact e0.out | exact upR e0.out⟩, ⟨by exact upB a5.out⟩, ⟨by repeat (with_reducible first | exact HB.out | apply yah | apply yaf | apply yag | refine yai ?_ (Aside0.out ‹_›))⟩⟩
  case round =>
   clear H'; (try clear p2); (try clear c3); (try clear c7); obtain ⟨c2, b9, rfl, HA, HK1, c4, a2, a5, HB⟩ := hrel
   cases gk with
   | zero => exact absurd HA.out (by simp [spec_OpRead.l0])
   | succ k1 =>
    have H := HA.out; clear HA
    simp only [spec_OpRead.l0] at H
    by_cases c8 : b9 < (c0.length : Int)
    rotate_left
    ·
     rw [if_neg c8] at H
     have c5 : decide (b9 < (c0.length : Int)) = false := decide_eq_false c8; clear c8
     (first | rw [c5] | (simp only [i64_w, i32_w]; rw [c5]) | skip)
     have H' := yad H; clear H; obtain ⟨u7, u9, q3⟩ := Kd.R_slice c4.out; subst q3
     go_wp2
     go_meet
     case rel => exact ⟨_, (c2), H', ⟨by have := HK1.out; first | omega | exact Nat.le_refl _⟩, ⟨by first | exact a2.out | exact upR a2.out⟩, ⟨by exact upB a5.out⟩, ⟨by repeat (with_reducible first | exact HB.out | apply yah | apply yaf | apply yag | refine yai ?_ (Aside0.out ‹_›))⟩⟩
    rw [if_pos c8] at H
    have c5 : decide (b9 < (c0.length : Int)) = true := decide_eq_true c8; clear c8
    (first | rw [c5] | (simp only [i64_w, i32_w]; rw [c5]) | skip)
    by_cases c9 : b9 < 5
    rotate_left
    ·
     rw [if_neg c9] at H
     have e4 : decide (b9 < 5) = false := decide_eq_false c9; clear c9; have H' := yad H; clear H; obtain ⟨u5, u6, q2⟩ := Kd.R_slice c4.out; subst q2
     go_wp2
     go_meet
     case rel => exact ⟨_, (c2), H', ⟨by have := HK1.out; first | omega | exact Nat.le_refl _⟩, ⟨by first | exact a2.out | exact upR a2.out⟩, ⟨by exact upB a5.out⟩, ⟨by repeat (with_reducible first | exact HB.out | apply yah | apply yaf | apply yag | refine yai ?_ (Aside0.out ‹_›))⟩⟩
    rw [if_pos c9] at H
    have e4 : decide (b9 < 5) = true := decide_eq_true c9; clear c9
    by_cases c10 : 0 ≤ b9
    rotate_left
    ·
     rw [if_neg c10] at H
     exact absurd H (by simp)
    rw [if_pos c10] at H
    replace c10 := decide_eq_true c10; obtain ⟨d1, A11, H⟩ := bindA H; (try dsimp only at H); obtain ⟨ji12, hji12⟩ : ∃ j_ : Int, (wrap64 (b9 - 1)) = j_ := ⟨_, rfl⟩
    replace H : (if 0 ≤ (ji12) then (if (ji12) < (c2.length : Int) then (spec_OpRead.l0 k1 a0 c0 (c2.set ((ji12) : Int).toNat d1) (wrap64 (b9 + 1))) else (none)) else (none)) = some (r1, r2, r3, r4, r5, r6) := by first | (rw [hji12] at H; exact H) | (simp only [hji12] at H ⊢; exact H)
    (try rw [hji12] at A11)
    have hji12w : (IntKind.i64.wrap (b9 - 1)) = ji12 := (i64_w _).trans hji12
    by_cases c13 : 0 ≤ (ji12)
    ·
     rw [if_pos c13] at H
     replace c13 := decide_eq_true c13
     by_cases c14 : (ji12) < (c2.length : Int)
     ·
      rw [if_pos c14] at H
      replace c14 := decide_eq_true c14; obtain ⟨y110, hy110⟩ : ∃ y_ : List Int, y_ = (c2.set ((ji12) : Int).toNat d1) := ⟨_, rfl⟩
      replace H : (spec_OpRead.l0 k1 a0 c0 y110 (wrap64 (b9 + 1))) = some (r1, r2, r3, r4, r5, r6) := by first | (rw [hy110]; with_reducible exact H) | (have H2_ := (Option.bind_some _ _).symm.trans H; rw [hy110]; with_reducible exact H2_) | (have H2_ := (Option.bind_some _ _).symm.trans H; with_reducible exact H2_) | with_reducible exact H | (rw [hy110]; exact H) | exact H
      have Ny110 := yad hy110; clear hy110; have H' := yad H; clear H; obtain ⟨u2, u3, p9⟩ := Kd.R_slice c4.out; subst p9; have p108 : 0 ≤ (b9 : Int) := of_decide_eq_true (by assumption); have q108 : b9 < (c0.length : Int) := of_decide_eq_true (by assumption); obtain ⟨ad108, q0, d0⟩ := Kd.at_string (yak c4.out).2.2 b9 p108 q108
      cases q0
      replace p108 := eq_true p108; replace q108 := eq_true q108
      go_wp2_with (first | ((with_reducible refine gc_ 39 rfl ?_); refine gl_ (some 29) rfl Tryz.func39 #[.string (rdOf ByteArray.empty c0 b9)] ?_; (with_reducible refine (spec_l7Num.calls k1 (rdOf ByteArray.empty c0 b9) d1 _ A11.out).mono ?_); rintro e w17 ⟨rfl, hb⟩; refine ⟨_, rfl, ?_⟩; replace c4 := yad (Kd.R_below (upR c4.out) hb); replace a2 := yad (Kd.R_below (upR a2.out) hb); replace a5 := yad (blk_below (upB a5.out) hb); replace HB := yad (below_step (by repeat (with_reducible first | exact HB.out | apply yah | apply yaf | apply yag | refine yai ?_ (Aside0.out ‹_›))) hb); (try clear hb); have p15 : 0 ≤ ((ji12) : Int) := of_decide_eq_true (by assumption); have q15 : ((ji12) : Int) < ((c2.length : Int) : Int) := of_decide_eq_true (by assumption); obtain ⟨go15, e6, e7, e8, gl15, u4, HG15⟩ := Kd.R_form a2.out (by omega); (first | cases e7 | (injection e7 with ea_ en_ ec_; (first | subst ea_ | (injection ea_ with ea_; subst ea_)); subst ec_; clear en_)); have GB15 := yad e8; have GG15 := yad HG15; clear e8 gl15 HG15; obtain ⟨d2, hf15_0⟩ := Kd.R_celln 0 a2.out ((ji12) : Int) p15 q15; replace p15 := eq_true p15; replace q15 := eq_true q15; obtain ⟨hy18_, hz18_⟩ := Kd.R_celln 0 a2.out ((ji12) : Int) (of_decide_eq_true (by assumption)) (of_decide_eq_true (by assumption)); have HP18 := Kd.R_putg a2.out ((ji12) : Int) d1) | ((with_reducible refine gate_store (t := 3) (p := 30) rfl ?_); refine store_event (t := 3) (p := 30) (v := ?vo_w19) (w1 := (w17.setCell ⟨go15, ((ji12) : Int).toNat, none⟩ (.int .i64 d1))) ?hg ?ho ?hn ?hr ?_; (case ho => rfl); (case hg => rfl); (case hn => rfl); (case hr => first | (go_simp; done) | (go_simp; rfl)); intro w19 hw; have hg : w17.grownBy w19 (some go15) := (by rw [hw]; exact HP18.2); have hp_ : Kd.R (Kd.int .i64) 3 w19 w.heap.size (fun _ => True) (.slice (some ⟨go15, 0, none⟩) c2.length e6) y110 := (by rw [hw, Ny110.out]; exact HP18.1); clear HP18; replace c4 := yad (Kd.R_over' (v := (.slice (some ⟨go15, 0, none⟩) c2.length e6)) (upR c4.out) (Kd.R_typed a2.out) (by decide) hg); replace a5 := yad (blk_grown (upB a5.out) hg (yab a2.out a5.out (by decide))); replace a2 := yad (hp_); replace HB := yad ((by rw [hw]; exact yai (HB.out) GB15.out : Below w.heap.size w w19)); clear hg hw hp_))
      go_roundg k1
      case measure => have := HK1.out; omega
      case rel => exact ⟨(y110), (wrap64 (b9 + 1)), (by first | rfl | (simp; done) | (simp [*]; done)), H', ⟨by have := HK1.out; omega⟩, ⟨by first | exact c4.out | exact upR c4.out⟩, ⟨by first | exact a2.out | exact upR a2.out⟩, ⟨by exact upB a5.out⟩, ⟨by repeat (with_reducible first | exact HB.out | apply yah | apply yaf | apply yag | refine yai ?_ (Aside0.out ‹_›))⟩⟩
     rw [if_neg c14] at H
     exact absurd H (by simp)
    rw [if_neg c13] at H
    exact absurd H (by simp)
 case rest =>
  clear HC3; (try clear c1); (try clear p1); (try clear q1); (try clear hx1); (try clear hf1); (try clear p2); (try clear c3); (try clear p6); (try clear c7); (try clear c8); (try clear c5); (try clear c9); (try clear e4); (try clear c10); (try clear c10b0); (try clear p10); (try clear q10); (try clear hx10); (try clear c13); (try clear c13b0); (try clear c14); (try clear c14b0); (try clear p15); (try clear q15); (try clear hx15); (try clear hf15); (try clear d0); (try clear d2); (try clear p108); (try clear p15); (try clear p2); (try clear q108); (try clear q15); obtain ⟨kq, a4, HA, HJ2, a2, a5, HB⟩ := hcut
  cases kq with
  | zero => exact absurd HA.out (by simp [spec_OpRead.j1])
  | succ kj2 =>
   have H := HA.out; clear HA
   simp only [spec_OpRead.j1] at H
   have H' := yad H; clear H
   go_wp2
   (try simp only [Act.put, List.setIfInBounds_toArray, List.set_cons_zero, List.set_cons_succ])
   go_loopg [7] kj2 (fun kq v7 w' => ∃ (b2 : Int) (b7 : Int) (b1 : Int) (b0 : Int) (a9 : Int) (a8 : Int), v7 = .int .i64 b2 ∧ Aside0 (spec_OpRead.l1 kq a0 a4 b2 = some (r1, r2, r3, r4, r5, r6)) ∧ Aside0 (kq ≤ kj2) ∧ Aside0 (Kd.R (Kd.int .i64) 3 w' w.heap.size (fun _ => True) e3 a4) ∧ Aside0 (w'.heap[b8]? = some (.cells #[.int .i64 b7, .int .i64 b1, .int .i64 b0, .int .i64 a9, .int .i64 a8] 65 (0, 0))) ∧ Aside0 (Below w.heap.size w w'))
   case atStart => exact ⟨(1), (0), (0), (0), (0), (0), (by first | rfl | (simp; done) | (simp [*]; done)), H', ⟨Nat.le_refl _⟩, ⟨by first | exact a2.out | exact upR a2.out⟩, ⟨by exact upB a5.out⟩, ⟨by repeat (with_reducible first | exact HB.out | apply yah | apply yaf | apply yag | refine yai ?_ (Aside0.out ‹_›))⟩⟩
   case round =>
    clear H'; (try clear c1); (try clear p1); (try clear q1); (try clear hx1); (try clear hf1); (try clear p2); (try clear c3); (try clear p6); (try clear c7); (try clear c8); (try clear c5); (try clear c9); (try clear e4); (try clear c10); (try clear c10b0); (try clear p10); (try clear q10); (try clear hx10); (try clear c13); (try clear c13b0); (try clear c14); (try clear c14b0); (try clear p15); (try clear q15); (try clear hx15); (try clear hf15); (try clear d0); (try clear d2); (try clear p1); (try clear p10); (try clear p108); (try clear p15); (try clear p2); (try clear p6); (try clear q1); (try clear q10); (try clear q108); (try clear q15); obtain ⟨b2, b7, b1, b0, a9, a8, rfl, HA, HK2, a2, a5, HB⟩ := hrel
    cases gk with
    | zero => exact absurd HA.out (by simp [spec_OpRead.l1])
    | succ k2 =>
     have H := HA.out; clear HA
     simp only [spec_OpRead.l1] at H
     by_cases c22 : b2 ≤ 8
     rotate_left
     ·
      rw [if_neg c22] at H
      have f2 : decide (b2 ≤ 8) = false := decide_eq_false c22; clear c22
      simp only [Option.some.injEq, Prod.mk.injEq] at H
      obtain ⟨rfl, rfl, rfl, rfl, rfl, rfl⟩ := H; obtain ⟨o5, o6, o7, o8, o9⟩ := cc5_ a5.out; obtain ⟨p0, p3, p4, p5, p7⟩ := cf5_ a5.out
      go_wp2
      refine bodyPost_ret (results_ct rfl _ _ b8 65 #[.int .i64 0, .int .i64 0, .int .i64 0, .int .i64 0, .int .i64 0] (0, 0) _ rfl (by (repeat refine oneB ?_); refine yal (cs := #[.int .i64 0, .int .i64 0, .int .i64 0, .int .i64 0, .int .i64 a8]) ?_ 4 _ rfl; refine yal (cs := #[.int .i64 0, .int .i64 0, .int .i64 0, .int .i64 a9, .int .i64 a8]) ?_ 3 _ rfl; refine yal (cs := #[.int .i64 0, .int .i64 0, .int .i64 b0, .int .i64 a9, .int .i64 a8]) ?_ 2 _ rfl; refine yal (cs := #[.int .i64 0, .int .i64 b1, .int .i64 b0, .int .i64 a9, .int .i64 a8]) ?_ 1 _ rfl; refine yal (cs := #[.int .i64 b7, .int .i64 b1, .int .i64 b0, .int .i64 a9, .int .i64 a8]) ?_ 0 _ rfl; exact upB a5.out) Tryz.underlying65 rfl (by kernel_rfl)) rfl ?_
      exact ⟨by first | rfl | (simp [*, errW_none, errW_some] <;> rfl), by repeat (with_reducible first | exact HB.out | apply yah | apply yaf | apply yag | refine yai ?_ (Aside0.out ‹_›))⟩
     rw [if_pos c22] at H
     have f2 : decide (b2 ≤ 8) = true := decide_eq_true c22; clear c22
     by_cases c23 : 0 < (a4.length : Int)
     rotate_left
     ·
      rw [if_neg c23] at H
      exact absurd H (by simp)
     rw [if_pos c23] at H
     have q7 : decide (0 < (a4.length : Int)) = true := decide_eq_true c23; have q8 : decide (0 < a4.length) = true := decide_eq_true (by omega); clear c23
     by_cases c24 : 1 < (a4.length : Int)
     rotate_left
     ·
      rw [if_neg c24] at H
      exact absurd H (by simp)
     rw [if_pos c24] at H
     have q9 : decide (1 < (a4.length : Int)) = true := decide_eq_true c24; have r0 : decide (1 < a4.length) = true := decide_eq_true (by omega); clear c24
     by_cases c25 : 2 < (a4.length : Int)
     rotate_left
     ·
      rw [if_neg c25] at H
      exact absurd H (by simp)
     rw [if_pos c25] at H
     have r7 : decide (2 < (a4.length : Int)) = true := decide_eq_true c25; have r8 : decide (2 < a4.length) = true := decide_eq_true (by omega); clear c25
     by_cases c26 : 3 < (a4.length : Int)
     rotate_left
     ·
      rw [if_neg c26] at H
      exact absurd H (by simp)
     rw [if_pos c26] at H
     have r9 : decide (3 < (a4.length : Int)) = true := decide_eq_true c26; have s0 : decide (3 < a4.length) = true := decide_eq_true (by omega); clear c26; obtain ⟨d8, A27, H⟩ := bindA H; (try dsimp only at H)
     by_cases c28 : d8.toList = a0.toList
     rotate_left
     ·
      rw [if_neg c28] at H
      have f3 := beq_eq_false_iff_ne.mpr c28; have f4 := bne_iff_ne.mpr c28; have H' := yad H; clear H
      try go_wp2
      replace a2 := yad (Kd.R_drew a2.out); replace a5 := yad (blk_drew a5.out); replace HB := yad (yag HB.out); obtain ⟨x2, x3, f9⟩ := Kd.R_slice a2.out
      (first | subst f9 | (injection f9 with f1_ f2_ f3_; have f4_ := f1_.symm; have f5_ := f3_.symm; clear f1_ f2_ f3_; subst f4_; subst f5_))
      have p111 : 0 ≤ (0 : Int) := (by omega); have q111 : 0 < (a4.length : Int) := of_decide_eq_true (by assumption); obtain ⟨ad111, d3, b3⟩ := Kd.at_int (yak a2.out).2.2 0 p111 q111
      cases d3
      have qi111 : (0 < a4.length) = True := eq_true (by omega)
      (try rw [show ((0 : Int)).toNat = 0 from rfl] at b3)
      (try rw [Addr.add_zero'] at b3)
      replace p111 := eq_true p111; replace q111 := eq_true q111; have p112 : 0 ≤ (1 : Int) := (by omega); have q112 : 1 < (a4.length : Int) := of_decide_eq_true (by assumption); obtain ⟨ad112, d4, b4⟩ := Kd.at_int (yak a2.out).2.2 1 p112 q112; obtain rfl : ad111 = ad112 := (by injection d4)
      (try simp only [show (1 : Int).toNat = 1 from rfl, Nat.reduceMul, Nat.reduceEqDiff, Go.Addr.add, ↓reduceIte] at b4)
      have qi112 : (1 < a4.length) = True := eq_true (by omega)
      (try rw [show ((1 : Int)).toNat = 1 from rfl] at b4)
      replace p112 := eq_true p112; replace q112 := eq_true q112; have p113 : 0 ≤ (2 : Int) := (by omega); have q113 : 2 < (a4.length : Int) := of_decide_eq_true (by assumption); obtain ⟨ad113, d5, b5⟩ := Kd.at_int (yak a2.out).2.2 2 p113 q113; obtain rfl : ad111 = ad113 := (by injection d5)
      (try simp only [show (2 : Int).toNat = 2 from rfl, Nat.reduceMul, Nat.reduceEqDiff, Go.Addr.add, ↓reduceIte] at b5)
      have qi113 : (2 < a4.length) = True := eq_true (by omega)
      (try rw [show ((2 : Int)).toNat = 2 from rfl] at b5)
      replace p113 := eq_true p113; replace q113 := eq_true q113; have p114 : 0 ≤ (3 : Int) := (by omega); have q114 : 3 < (a4.length : Int) := of_decide_eq_true (by assumption); obtain ⟨ad114, d6, b6⟩ := Kd.at_int (yak a2.out).2.2 3 p114 q114; obtain rfl : ad111 = ad114 := (by injection d6)
      (try simp only [show (3 : Int).toNat = 3 from rfl, Nat.reduceMul, Nat.reduceEqDiff, Go.Addr.add, ↓reduceIte] at b6)
      have qi114 : (3 < a4.length) = True := eq_true (by omega)
      (try rw [show ((3 : Int)).toNat = 3 from rfl] at b6)
      replace p114 := eq_true p114; replace q114 := eq_true q114
      refine start_ (n := 16) (S := fun w' => w'.cell? ad111 = some (.int .i64 (rd a4 0)) ∧ w'.cell? ⟨ad111.block, ad111.off + 1, none⟩ = some (.int .i64 (rd a4 1)) ∧ w'.cell? ⟨ad111.block, ad111.off + 2, none⟩ = some (.int .i64 (rd a4 2)) ∧ w'.cell? ⟨ad111.block, ad111.off + 3, none⟩ = some (.int .i64 (rd a4 3))) (ds := []) q72_0 (by kernel_rfl) rfl rfl ⟨b3, b4, b5, b6⟩ (fun hHeld => ?_); refine with_tabW spec_OpRead.tab10 spec_OpRead.bits10 (fun HT_ HW_ => ?_)
      generalize wr.drew = w54 at a2 a5 HB b3 b4 b5 b6 hHeld ⊢
      refine pz_ 0 35 q72_1 HT_ (by kernel_rfl) ?_
      refine pz_ 1 36 q72_2 HT_ (by kernel_rfl) ?_
      refine pz_ 2 37 q72_3 HT_ (by kernel_rfl) ?_
      refine pz_ 4 39 q72_4 HT_ (by kernel_rfl) ?_
      refine pz_ 5 40 q72_5 HT_ (by kernel_rfl) ?_
      refine pz_ 7 42 q72_6 HT_ (by kernel_rfl) ?_
      refine pz_ 8 43 q72_7 HT_ (by kernel_rfl) ?_
      refine pz_ 10 45 q72_8 HT_ (by kernel_rfl) ?_
      refine pz_ 11 46 q72_9 HT_ (by kernel_rfl) ?_
      refine tz_ 3 38 q72_10 HT_ HW_ (by kernel_rfl) hHeld ?_
      refine tz_ 6 41 q72_11 HT_ HW_ (by kernel_rfl) hHeld ?_
      refine tz_ 9 44 q72_12 HT_ HW_ (by kernel_rfl) hHeld ?_
      refine tz_ 12 47 q72_13 HT_ HW_ (by kernel_rfl) hHeld ?_
      refine pz_ 13 48 q72_14 HT_ (by kernel_rfl) ?_
      refine one_ (i := 14) (N := some 8) q72_15 rfl rfl (one_of HT_.out (by kernel_rfl)) (by decide) (fun K hK => ?_)
      refine box_step ?hg (N := 8) ?hd (cs := #[.int .i64 0, .int .i64 0, .int .i64 0, .int .i64 0, .int .i64 0]) (t := 65) ?hr ?_; (case hd => rfl); (case hg => rfl); (case hr => first | (go_simp; done) | (go_simp; rfl))
      intro a3 hg w56 hbox hb; have HS0_ := (hb.cell (World.block_lt_of_cell? _ _ (hHeld.1))).trans (hHeld.1); have HS1_ := (hb.cell (World.block_lt_of_cell? _ _ (hHeld.2.1))).trans (hHeld.2.1); have HS2_ := (hb.cell (World.block_lt_of_cell? _ _ (hHeld.2.2.1))).trans (hHeld.2.2.1); have HS3_ := (hb.cell (World.block_lt_of_cell? _ _ (hHeld.2.2.2))).trans (hHeld.2.2.2); have n0_ := yad (Kd.R_below (upR a2.out) hb); have n1_ := yad (blk_below (upB a5.out) hb)
      have n2_ := yad (below_step (by repeat (with_reducible first | exact HB.out | apply yah | apply yaf | apply yag | refine yai ?_ (Aside0.out ‹_›))) hb)
      have n3_ := yad (hbox)
      have n4_ := yad ((by rw [hg]; exact (below_size (by repeat (with_reducible first | exact HB.out | apply yah | apply yaf | apply yag | refine yai ?_ (Aside0.out ‹_›)))) : w.heap.size ≤ a3))
      have n5_ := yad ((by rw [hg]; exact (below_size (by repeat (with_reducible first | exact HB.out | apply yah | apply yaf | apply yag | refine yai ?_ (Aside0.out ‹_›)))) : w.heap.size ≤ a3))
      have n6_ := yad ((by rw [hg]; exact Nat.ne_of_lt (blk_lt (upB a5.out)) : b8 ≠ a3)); have n7_ := yad ((by rw [hg]; exact Nat.ne_of_gt (blk_lt (upB a5.out)) : a3 ≠ b8)); clear a2; clear a5; clear HB; have a2 := n0_; have a5 := n1_; have HB := n2_; have a1 := n3_; have e1 := n4_; have e2 := n5_; have a6 := n6_; have a7 := n7_; clear n0_ n1_ n2_ n3_ n4_ n5_ n6_ n7_; clear hb hbox hg
      refine hK.out _ _ ⟨HS0_, HS1_, HS2_, HS3_⟩ (fun hHeld => ?_)
      clear hK K
      refine norm_ (a' := ?_) ?_ ?_
      rotate_left
      ·
       show Act.put _ (some 8) _ = _
       simp only [Act.put, List.setIfInBounds_toArray, List.set_cons_zero, List.set_cons_succ, i64_w, i32_w]
       rfl
      refine one_ (i := 15) (N := none) q72_16 rfl rfl (one_of HT_.out (by kernel_rfl)) (by decide) (fun K hK => ?_)
      have x8 : w56.cell? ⟨a3, 0, none⟩ = some (.int .i64 0) := (blk_cell a1.out 0).trans rfl; have t5 := yaj a1.out 0; have m5 := a6.out; have m6 := a7.out; have x9 : w56.cell? ⟨a3, 1, none⟩ = some (.int .i64 0) := (blk_cell a1.out 1).trans rfl; have t6 := yaj a1.out 1; have m7 := a6.out; have m8 := a7.out; have y4 : w56.cell? ⟨a3, 2, none⟩ = some (.int .i64 0) := (blk_cell a1.out 2).trans rfl; have t7 := yaj a1.out 2; have m9 := a6.out; have n0 := a7.out; have y5 : w56.cell? ⟨a3, 3, none⟩ = some (.int .i64 0) := (blk_cell a1.out 3).trans rfl; have t8 := yaj a1.out 3; have n1 := a6.out; have n2 := a7.out; have y6 : w56.cell? ⟨a3, 4, none⟩ = some (.int .i64 0) := (blk_cell a1.out 4).trans rfl; have t9 := yaj a1.out 4; have n3 := a6.out; have n4 := a7.out
      refine skip_ (by rfl) rfl (st5_ (b := a3) (c0 := b2) (c1 := (rd a4 0)) (c2 := (rd a4 1)) (c3 := (rd a4 2)) (c4 := (rd a4 3)) rfl rfl a1.out) ?_
      have hne_ := yaa (yab a2.out a1.out (by decide))
      refine hK.out _ _ ⟨cell5_ hne_ hHeld.1, cell5_ hne_ hHeld.2.1, cell5_ hne_ hHeld.2.2.1, cell5_ hne_ hHeld.2.2.2⟩ (fun hHeld => ?_)
      clear hK K
      refine done_ (done_of HT_.out (by kernel_rfl)) ?_
      have u0 := a7.out; have u1 := a6.out; obtain ⟨n5, n6, n7, n8, n9⟩ := cc5_ a1.out; obtain ⟨o0, o1, o2, o3, o4⟩ := cf5_ a1.out
      try go_wp2_with (first | ((with_reducible refine gd_ 49 rfl ?_); refine Kd.event_run rfl (ld5_ (b := a3) 49 (x0 := b2) (x1 := (rd a4 0)) (x2 := (rd a4 1)) (x3 := (rd a4 2)) (x4 := (rd a4 3)) rfl (by (repeat refine oneB ?_); refine yal (cs := #[.int .i64 b2, .int .i64 (rd a4 0), .int .i64 (rd a4 1), .int .i64 (rd a4 2), .int .i64 0]) ?_ 4 _ rfl; refine yal (cs := #[.int .i64 b2, .int .i64 (rd a4 0), .int .i64 (rd a4 1), .int .i64 0, .int .i64 0]) ?_ 3 _ rfl; refine yal (cs := #[.int .i64 b2, .int .i64 (rd a4 0), .int .i64 0, .int .i64 0, .int .i64 0]) ?_ 2 _ rfl; refine yal (cs := #[.int .i64 b2, .int .i64 0, .int .i64 0, .int .i64 0, .int .i64 0]) ?_ 1 _ rfl; refine yal (cs := #[.int .i64 0, .int .i64 0, .int .i64 0, .int .i64 0, .int .i64 0]) ?_ 0 _ rfl; exact upB a1.out)) ?_) | ((with_reducible refine gc_ 82 rfl ?_); refine gl_ (some 50) rfl Tryz.func82 #[.agg #[.int .i64 b2, .int .i64 (rd a4 0), .int .i64 (rd a4 1), .int .i64 (rd a4 2), .int .i64 (rd a4 3)]] ?_; (with_reducible refine (spec_OpText.calls k2 b2 (rd a4 0) (rd a4 1) (rd a4 2) (rd a4 3) d8 _ A27.out).mono ?_); rintro e w64 ⟨rfl, hb⟩; refine ⟨_, rfl, ?_⟩; replace a2 := yad (Kd.R_below (by (with_reducible repeat (first | apply Kd.R_alloc | apply Kd.R_drewN | apply Kd.R_drew)); exact (Kd.R_mono (Kd.R_far (p := ⟨a3, 4, none⟩) (Kd.R_far (p := ⟨a3, 3, none⟩) (Kd.R_far (p := ⟨a3, 2, none⟩) (Kd.R_far (p := ⟨a3, 1, none⟩) (Kd.R_far (p := ⟨a3, 0, none⟩) (Kd.R_types a2.out a1.out (by decide)) (fun _ hk => hk.2) (.int .i64 b2)) (fun _ hk => hk.2) (.int .i64 (rd a4 0))) (fun _ hk => hk.2) (.int .i64 (rd a4 1))) (fun _ hk => hk.2) (.int .i64 (rd a4 2))) (fun _ hk => hk.2) (.int .i64 (rd a4 3))) (fun _ h_ => h_.1))) hb); replace a5 := yad (blk_below (g := b8) (o := .cells #[.int .i64 b7, .int .i64 b1, .int .i64 b0, .int .i64 a9, .int .i64 a8] 65 (0, 0)) (by repeat (with_reducible first | exact a5.out | refine oneB ?_ | refine blk_far ?_ a6.out _)) hb); replace a1 := yad (blk_below (g := a3) (o := .cells #[.int .i64 b2, .int .i64 (rd a4 0), .int .i64 (rd a4 1), .int .i64 (rd a4 2), .int .i64 (rd a4 3)] 65 (0, 0)) (by (repeat refine oneB ?_); refine yal (cs := #[.int .i64 b2, .int .i64 (rd a4 0), .int .i64 (rd a4 1), .int .i64 (rd a4 2), .int .i64 0]) ?_ 4 _ rfl; refine yal (cs := #[.int .i64 b2, .int .i64 (rd a4 0), .int .i64 (rd a4 1), .int .i64 0, .int .i64 0]) ?_ 3 _ rfl; refine yal (cs := #[.int .i64 b2, .int .i64 (rd a4 0), .int .i64 0, .int .i64 0, .int .i64 0]) ?_ 2 _ rfl; refine yal (cs := #[.int .i64 b2, .int .i64 0, .int .i64 0, .int .i64 0, .int .i64 0]) ?_ 1 _ rfl; refine yal (cs := #[.int .i64 0, .int .i64 0, .int .i64 0, .int .i64 0, .int .i64 0]) ?_ 0 _ rfl; exact upB a1.out) hb); replace HB := yad (below_step (by repeat (with_reducible first | exact HB.out | apply yah | apply yaf | apply yag | refine yai ?_ (Aside0.out ‹_›))) hb); (try clear hb)))
      go_roundg k2
      case measure => have := HJ2.out; have := HK2.out; omega
      case rel => exact ⟨(wrap64 (b2 + 1)), (b7), (b1), (b0), (a9), (a8), (by first | rfl | (simp; done) | (simp [*]; done)), H', ⟨by have := HJ2.out; have := HK2.out; omega⟩, ⟨by first | exact a2.out | exact upR a2.out⟩, ⟨by exact upB a5.out⟩, ⟨by repeat (with_reducible first | exact HB.out | apply yah | apply yaf | apply yag | refine yai ?_ (Aside0.out ‹_›))⟩⟩
     rw [if_pos c28] at H
     have f3 := beq_iff_eq.mpr c28; have f4 := bne_eq_false_iff_eq.mpr c28; clear c28
     by_cases c29 : a0.toList = ([] : List UInt8)
     ·
      rw [if_pos c29] at H
      have f5 := beq_iff_eq.mpr c29; have f6 := bne_eq_false_iff_eq.mpr c29; clear c29; have H' := yad H; clear H
      try go_wp2
      replace a2 := yad (Kd.R_drew a2.out); replace a5 := yad (blk_drew a5.out); replace HB := yad (yag HB.out); obtain ⟨v0, v1, f7⟩ := Kd.R_slice a2.out
      (first | subst f7 | (injection f7 with f1_ f2_ f3_; have f4_ := f1_.symm; have f5_ := f3_.symm; clear f1_ f2_ f3_; subst f4_; subst f5_))
      have p111 : 0 ≤ (0 : Int) := (by omega); have q111 : 0 < (a4.length : Int) := of_decide_eq_true (by assumption); obtain ⟨ad111, d3, b3⟩ := Kd.at_int (yak a2.out).2.2 0 p111 q111
      cases d3
      have qi111 : (0 < a4.length) = True := eq_true (by omega)
      (try rw [show ((0 : Int)).toNat = 0 from rfl] at b3)
      (try rw [Addr.add_zero'] at b3)
      replace p111 := eq_true p111; replace q111 := eq_true q111; have p112 : 0 ≤ (1 : Int) := (by omega); have q112 : 1 < (a4.length : Int) := of_decide_eq_true (by assumption); obtain ⟨ad112, d4, b4⟩ := Kd.at_int (yak a2.out).2.2 1 p112 q112; obtain rfl : ad111 = ad112 := (by injection d4)
      (try simp only [show (1 : Int).toNat = 1 from rfl, Nat.reduceMul, Nat.reduceEqDiff, Go.Addr.add, ↓reduceIte] at b4)
      have qi112 : (1 < a4.length) = True := eq_true (by omega)
      (try rw [show ((1 : Int)).toNat = 1 from rfl] at b4)
      replace p112 := eq_true p112; replace q112 := eq_true q112; have p113 : 0 ≤ (2 : Int) := (by omega); have q113 : 2 < (a4.length : Int) := of_decide_eq_true (by assumption); obtain ⟨ad113, d5, b5⟩ := Kd.at_int (yak a2.out).2.2 2 p113 q113; obtain rfl : ad111 = ad113 := (by injection d5)
      (try simp only [show (2 : Int).toNat = 2 from rfl, Nat.reduceMul, Nat.reduceEqDiff, Go.Addr.add, ↓reduceIte] at b5)
      have qi113 : (2 < a4.length) = True := eq_true (by omega)
      (try rw [show ((2 : Int)).toNat = 2 from rfl] at b5)
      replace p113 := eq_true p113; replace q113 := eq_true q113; have p114 : 0 ≤ (3 : Int) := (by omega); have q114 : 3 < (a4.length : Int) := of_decide_eq_true (by assumption); obtain ⟨ad114, d6, b6⟩ := Kd.at_int (yak a2.out).2.2 3 p114 q114; obtain rfl : ad111 = ad114 := (by injection d6)
      (try simp only [show (3 : Int).toNat = 3 from rfl, Nat.reduceMul, Nat.reduceEqDiff, Go.Addr.add, ↓reduceIte] at b6)
      have qi114 : (3 < a4.length) = True := eq_true (by omega)
      (try rw [show ((3 : Int)).toNat = 3 from rfl] at b6)
      replace p114 := eq_true p114; replace q114 := eq_true q114
      refine start_ (n := 16) (S := fun w' => w'.cell? ad111 = some (.int .i64 (rd a4 0)) ∧ w'.cell? ⟨ad111.block, ad111.off + 1, none⟩ = some (.int .i64 (rd a4 1)) ∧ w'.cell? ⟨ad111.block, ad111.off + 2, none⟩ = some (.int .i64 (rd a4 2)) ∧ w'.cell? ⟨ad111.block, ad111.off + 3, none⟩ = some (.int .i64 (rd a4 3))) (ds := []) q72_0 (by kernel_rfl) rfl rfl ⟨b3, b4, b5, b6⟩ (fun hHeld => ?_); refine with_tabW spec_OpRead.tab10 spec_OpRead.bits10 (fun HT_ HW_ => ?_)
      generalize wr.drew = w30 at a2 a5 HB b3 b4 b5 b6 hHeld ⊢
      refine pz_ 0 35 q72_1 HT_ (by kernel_rfl) ?_
      refine pz_ 1 36 q72_2 HT_ (by kernel_rfl) ?_
      refine pz_ 2 37 q72_3 HT_ (by kernel_rfl) ?_
      refine pz_ 4 39 q72_4 HT_ (by kernel_rfl) ?_
      refine pz_ 5 40 q72_5 HT_ (by kernel_rfl) ?_
      refine pz_ 7 42 q72_6 HT_ (by kernel_rfl) ?_
      refine pz_ 8 43 q72_7 HT_ (by kernel_rfl) ?_
      refine pz_ 10 45 q72_8 HT_ (by kernel_rfl) ?_
      refine pz_ 11 46 q72_9 HT_ (by kernel_rfl) ?_
      refine tz_ 3 38 q72_10 HT_ HW_ (by kernel_rfl) hHeld ?_
      refine tz_ 6 41 q72_11 HT_ HW_ (by kernel_rfl) hHeld ?_
      refine tz_ 9 44 q72_12 HT_ HW_ (by kernel_rfl) hHeld ?_
      refine tz_ 12 47 q72_13 HT_ HW_ (by kernel_rfl) hHeld ?_
      refine pz_ 13 48 q72_14 HT_ (by kernel_rfl) ?_
      refine one_ (i := 14) (N := some 8) q72_15 rfl rfl (one_of HT_.out (by kernel_rfl)) (by decide) (fun K hK => ?_)
      refine box_step ?hg (N := 8) ?hd (cs := #[.int .i64 0, .int .i64 0, .int .i64 0, .int .i64 0, .int .i64 0]) (t := 65) ?hr ?_; (case hd => rfl); (case hg => rfl); (case hr => first | (go_simp; done) | (go_simp; rfl))
      intro a3 hg w32 hbox hb; have HS0_ := (hb.cell (World.block_lt_of_cell? _ _ (hHeld.1))).trans (hHeld.1); have HS1_ := (hb.cell (World.block_lt_of_cell? _ _ (hHeld.2.1))).trans (hHeld.2.1); have HS2_ := (hb.cell (World.block_lt_of_cell? _ _ (hHeld.2.2.1))).trans (hHeld.2.2.1); have HS3_ := (hb.cell (World.block_lt_of_cell? _ _ (hHeld.2.2.2))).trans (hHeld.2.2.2); have n0_ := yad (Kd.R_below (upR a2.out) hb); have n1_ := yad (blk_below (upB a5.out) hb)
      have n2_ := yad (below_step (by repeat (with_reducible first | exact HB.out | apply yah | apply yaf | apply yag | refine yai ?_ (Aside0.out ‹_›))) hb)
      have n3_ := yad (hbox)
      have n4_ := yad ((by rw [hg]; exact (below_size (by repeat (with_reducible first | exact HB.out | apply yah | apply yaf | apply yag | refine yai ?_ (Aside0.out ‹_›)))) : w.heap.size ≤ a3))
      have n5_ := yad ((by rw [hg]; exact (below_size (by repeat (with_reducible first | exact HB.out | apply yah | apply yaf | apply yag | refine yai ?_ (Aside0.out ‹_›)))) : w.heap.size ≤ a3))
      have n6_ := yad ((by rw [hg]; exact Nat.ne_of_lt (blk_lt (upB a5.out)) : b8 ≠ a3)); have n7_ := yad ((by rw [hg]; exact Nat.ne_of_gt (blk_lt (upB a5.out)) : a3 ≠ b8)); clear a2; clear a5; clear HB; have a2 := n0_; have a5 := n1_; have HB := n2_; have a1 := n3_; have e1 := n4_; have e2 := n5_; have a6 := n6_; have a7 := n7_; clear n0_ n1_ n2_ n3_ n4_ n5_ n6_ n7_; clear hb hbox hg
      refine hK.out _ _ ⟨HS0_, HS1_, HS2_, HS3_⟩ (fun hHeld => ?_)
      clear hK K
      refine norm_ (a' := ?_) ?_ ?_
      rotate_left
      ·
       show Act.put _ (some 8) _ = _
       simp only [Act.put, List.setIfInBounds_toArray, List.set_cons_zero, List.set_cons_succ, i64_w, i32_w]
       rfl
      refine one_ (i := 15) (N := none) q72_16 rfl rfl (one_of HT_.out (by kernel_rfl)) (by decide) (fun K hK => ?_)
      have v2 : w32.cell? ⟨a3, 0, none⟩ = some (.int .i64 0) := (blk_cell a1.out 0).trans rfl; have s1 := yaj a1.out 0; have g0 := a6.out; have g1 := a7.out; have v3 : w32.cell? ⟨a3, 1, none⟩ = some (.int .i64 0) := (blk_cell a1.out 1).trans rfl; have s2 := yaj a1.out 1; have g2 := a6.out; have g3 := a7.out; have v4 : w32.cell? ⟨a3, 2, none⟩ = some (.int .i64 0) := (blk_cell a1.out 2).trans rfl; have s3 := yaj a1.out 2; have g4 := a6.out; have g5 := a7.out; have v5 : w32.cell? ⟨a3, 3, none⟩ = some (.int .i64 0) := (blk_cell a1.out 3).trans rfl; have s4 := yaj a1.out 3; have g6 := a6.out; have g7 := a7.out; have v8 : w32.cell? ⟨a3, 4, none⟩ = some (.int .i64 0) := (blk_cell a1.out 4).trans rfl; have s5 := yaj a1.out 4; have g8 := a6.out; have g9 := a7.out
      refine skip_ (by rfl) rfl (st5_ (b := a3) (c0 := b2) (c1 := (rd a4 0)) (c2 := (rd a4 1)) (c3 := (rd a4 2)) (c4 := (rd a4 3)) rfl rfl a1.out) ?_
      have hne_ := yaa (yab a2.out a1.out (by decide))
      refine hK.out _ _ ⟨cell5_ hne_ hHeld.1, cell5_ hne_ hHeld.2.1, cell5_ hne_ hHeld.2.2.1, cell5_ hne_ hHeld.2.2.2⟩ (fun hHeld => ?_)
      clear hK K
      refine done_ (done_of HT_.out (by kernel_rfl)) ?_
      have s6 := a7.out; have s7 := a6.out; obtain ⟨h0, h1, h2, h3, h4⟩ := cc5_ a1.out; obtain ⟨h5, h6, h7, h8, h9⟩ := cf5_ a1.out
      try go_wp2_with (first | ((with_reducible refine gd_ 49 rfl ?_); refine Kd.event_run rfl (ld5_ (b := a3) 49 (x0 := b2) (x1 := (rd a4 0)) (x2 := (rd a4 1)) (x3 := (rd a4 2)) (x4 := (rd a4 3)) rfl (by (repeat refine oneB ?_); refine yal (cs := #[.int .i64 b2, .int .i64 (rd a4 0), .int .i64 (rd a4 1), .int .i64 (rd a4 2), .int .i64 0]) ?_ 4 _ rfl; refine yal (cs := #[.int .i64 b2, .int .i64 (rd a4 0), .int .i64 (rd a4 1), .int .i64 0, .int .i64 0]) ?_ 3 _ rfl; refine yal (cs := #[.int .i64 b2, .int .i64 (rd a4 0), .int .i64 0, .int .i64 0, .int .i64 0]) ?_ 2 _ rfl; refine yal (cs := #[.int .i64 b2, .int .i64 0, .int .i64 0, .int .i64 0, .int .i64 0]) ?_ 1 _ rfl; refine yal (cs := #[.int .i64 0, .int .i64 0, .int .i64 0, .int .i64 0, .int .i64 0]) ?_ 0 _ rfl; exact upB a1.out)) ?_) | ((with_reducible refine gc_ 82 rfl ?_); refine gl_ (some 50) rfl Tryz.func82 #[.agg #[.int .i64 b2, .int .i64 (rd a4 0), .int .i64 (rd a4 1), .int .i64 (rd a4 2), .int .i64 (rd a4 3)]] ?_; (with_reducible refine (spec_OpText.calls k2 b2 (rd a4 0) (rd a4 1) (rd a4 2) (rd a4 3) d8 _ A27.out).mono ?_); rintro e w40 ⟨rfl, hb⟩; refine ⟨_, rfl, ?_⟩; replace a2 := yad (Kd.R_below (by (with_reducible repeat (first | apply Kd.R_alloc | apply Kd.R_drewN | apply Kd.R_drew)); exact (Kd.R_mono (Kd.R_far (p := ⟨a3, 4, none⟩) (Kd.R_far (p := ⟨a3, 3, none⟩) (Kd.R_far (p := ⟨a3, 2, none⟩) (Kd.R_far (p := ⟨a3, 1, none⟩) (Kd.R_far (p := ⟨a3, 0, none⟩) (Kd.R_types a2.out a1.out (by decide)) (fun _ hk => hk.2) (.int .i64 b2)) (fun _ hk => hk.2) (.int .i64 (rd a4 0))) (fun _ hk => hk.2) (.int .i64 (rd a4 1))) (fun _ hk => hk.2) (.int .i64 (rd a4 2))) (fun _ hk => hk.2) (.int .i64 (rd a4 3))) (fun _ h_ => h_.1))) hb); replace a5 := yad (blk_below (g := b8) (o := .cells #[.int .i64 b7, .int .i64 b1, .int .i64 b0, .int .i64 a9, .int .i64 a8] 65 (0, 0)) (by repeat (with_reducible first | exact a5.out | refine oneB ?_ | refine blk_far ?_ a6.out _)) hb); replace a1 := yad (blk_below (g := a3) (o := .cells #[.int .i64 b2, .int .i64 (rd a4 0), .int .i64 (rd a4 1), .int .i64 (rd a4 2), .int .i64 (rd a4 3)] 65 (0, 0)) (by (repeat refine oneB ?_); refine yal (cs := #[.int .i64 b2, .int .i64 (rd a4 0), .int .i64 (rd a4 1), .int .i64 (rd a4 2), .int .i64 0]) ?_ 4 _ rfl; refine yal (cs := #[.int .i64 b2, .int .i64 (rd a4 0), .int .i64 (rd a4 1), .int .i64 0, .int .i64 0]) ?_ 3 _ rfl; refine yal (cs := #[.int .i64 b2, .int .i64 (rd a4 0), .int .i64 0, .int .i64 0, .int .i64 0]) ?_ 2 _ rfl; refine yal (cs := #[.int .i64 b2, .int .i64 0, .int .i64 0, .int .i64 0, .int .i64 0]) ?_ 1 _ rfl; refine yal (cs := #[.int .i64 0, .int .i64 0, .int .i64 0, .int .i64 0, .int .i64 0]) ?_ 0 _ rfl; exact upB a1.out) hb); replace HB := yad (below_step (by repeat (with_reducible first | exact HB.out | apply yah | apply yaf | apply yag | refine yai ?_ (Aside0.out ‹_›))) hb); (try clear hb)))
      go_roundg k2
      case measure => have := HJ2.out; have := HK2.out; omega
      case rel => exact ⟨(wrap64 (b2 + 1)), (b7), (b1), (b0), (a9), (a8), (by first | rfl | (simp; done) | (simp [*]; done)), H', ⟨by have := HJ2.out; have := HK2.out; omega⟩, ⟨by first | exact a2.out | exact upR a2.out⟩, ⟨by exact upB a5.out⟩, ⟨by repeat (with_reducible first | exact HB.out | apply yah | apply yaf | apply yag | refine yai ?_ (Aside0.out ‹_›))⟩⟩
     rw [if_neg c29] at H
     have f5 := beq_eq_false_iff_ne.mpr c29; have f6 := bne_iff_ne.mpr c29
     simp only [Option.some.injEq, Prod.mk.injEq] at H
     obtain ⟨rfl, rfl, rfl, rfl, rfl, rfl⟩ := H
     try go_wp2
     replace a2 := yad (Kd.R_drew a2.out); replace a5 := yad (blk_drew a5.out); replace HB := yad (yag HB.out); obtain ⟨v9, w0, f8⟩ := Kd.R_slice a2.out
     (first | subst f8 | (injection f8 with f1_ f2_ f3_; have f4_ := f1_.symm; have f5_ := f3_.symm; clear f1_ f2_ f3_; subst f4_; subst f5_))
     have p111 : 0 ≤ (0 : Int) := (by omega); have q111 : 0 < (a4.length : Int) := of_decide_eq_true (by assumption); obtain ⟨ad111, d3, b3⟩ := Kd.at_int (yak a2.out).2.2 0 p111 q111
     cases d3
     have qi111 : (0 < a4.length) = True := eq_true (by omega)
     (try rw [show ((0 : Int)).toNat = 0 from rfl] at b3)
     (try rw [Addr.add_zero'] at b3)
     replace p111 := eq_true p111; replace q111 := eq_true q111; have p112 : 0 ≤ (1 : Int) := (by omega); have q112 : 1 < (a4.length : Int) := of_decide_eq_true (by assumption); obtain ⟨ad112, d4, b4⟩ := Kd.at_int (yak a2.out).2.2 1 p112 q112; obtain rfl : ad111 = ad112 := (by injection d4)
     (try simp only [show (1 : Int).toNat = 1 from rfl, Nat.reduceMul, Nat.reduceEqDiff, Go.Addr.add, ↓reduceIte] at b4)
     have qi112 : (1 < a4.length) = True := eq_true (by omega)
     (try rw [show ((1 : Int)).toNat = 1 from rfl] at b4)
     replace p112 := eq_true p112; replace q112 := eq_true q112; have p113 : 0 ≤ (2 : Int) := (by omega); have q113 : 2 < (a4.length : Int) := of_decide_eq_true (by assumption); obtain ⟨ad113, d5, b5⟩ := Kd.at_int (yak a2.out).2.2 2 p113 q113; obtain rfl : ad111 = ad113 := (by injection d5)
     (try simp only [show (2 : Int).toNat = 2 from rfl, Nat.reduceMul, Nat.reduceEqDiff, Go.Addr.add, ↓reduceIte] at b5)
     have qi113 : (2 < a4.length) = True := eq_true (by omega)
     (try rw [show ((2 : Int)).toNat = 2 from rfl] at b5)
     replace p113 := eq_true p113; replace q113 := eq_true q113; have p114 : 0 ≤ (3 : Int) := (by omega); have q114 : 3 < (a4.length : Int) := of_decide_eq_true (by assumption); obtain ⟨ad114, d6, b6⟩ := Kd.at_int (yak a2.out).2.2 3 p114 q114; obtain rfl : ad111 = ad114 := (by injection d6)
     (try simp only [show (3 : Int).toNat = 3 from rfl, Nat.reduceMul, Nat.reduceEqDiff, Go.Addr.add, ↓reduceIte] at b6)
     have qi114 : (3 < a4.length) = True := eq_true (by omega)
     (try rw [show ((3 : Int)).toNat = 3 from rfl] at b6)
     replace p114 := eq_true p114; replace q114 := eq_true q114
     refine start_ (n := 16) (S := fun w' => w'.cell? ad111 = some (.int .i64 (rd a4 0)) ∧ w'.cell? ⟨ad111.block, ad111.off + 1, none⟩ = some (.int .i64 (rd a4 1)) ∧ w'.cell? ⟨ad111.block, ad111.off + 2, none⟩ = some (.int .i64 (rd a4 2)) ∧ w'.cell? ⟨ad111.block, ad111.off + 3, none⟩ = some (.int .i64 (rd a4 3))) (ds := []) q72_0 (by kernel_rfl) rfl rfl ⟨b3, b4, b5, b6⟩ (fun hHeld => ?_); refine with_tabW spec_OpRead.tab10 spec_OpRead.bits10 (fun HT_ HW_ => ?_)
     generalize wr.drew = w41 at a2 a5 HB b3 b4 b5 b6 hHeld ⊢
     refine pz_ 0 35 q72_1 HT_ (by kernel_rfl) ?_
     refine pz_ 1 36 q72_2 HT_ (by kernel_rfl) ?_
     refine pz_ 2 37 q72_3 HT_ (by kernel_rfl) ?_
     refine pz_ 4 39 q72_4 HT_ (by kernel_rfl) ?_
     refine pz_ 5 40 q72_5 HT_ (by kernel_rfl) ?_
     refine pz_ 7 42 q72_6 HT_ (by kernel_rfl) ?_
     refine pz_ 8 43 q72_7 HT_ (by kernel_rfl) ?_
     refine pz_ 10 45 q72_8 HT_ (by kernel_rfl) ?_
     refine pz_ 11 46 q72_9 HT_ (by kernel_rfl) ?_
     refine tz_ 3 38 q72_10 HT_ HW_ (by kernel_rfl) hHeld ?_
     refine tz_ 6 41 q72_11 HT_ HW_ (by kernel_rfl) hHeld ?_
     refine tz_ 9 44 q72_12 HT_ HW_ (by kernel_rfl) hHeld ?_
     refine tz_ 12 47 q72_13 HT_ HW_ (by kernel_rfl) hHeld ?_
     refine pz_ 13 48 q72_14 HT_ (by kernel_rfl) ?_
     refine one_ (i := 14) (N := some 8) q72_15 rfl rfl (one_of HT_.out (by kernel_rfl)) (by decide) (fun K hK => ?_)
     refine box_step ?hg (N := 8) ?hd (cs := #[.int .i64 0, .int .i64 0, .int .i64 0, .int .i64 0, .int .i64 0]) (t := 65) ?hr ?_; (case hd => rfl); (case hg => rfl); (case hr => first | (go_simp; done) | (go_simp; rfl))
     intro a3 hg w43 hbox hb; have HS0_ := (hb.cell (World.block_lt_of_cell? _ _ (hHeld.1))).trans (hHeld.1); have HS1_ := (hb.cell (World.block_lt_of_cell? _ _ (hHeld.2.1))).trans (hHeld.2.1); have HS2_ := (hb.cell (World.block_lt_of_cell? _ _ (hHeld.2.2.1))).trans (hHeld.2.2.1); have HS3_ := (hb.cell (World.block_lt_of_cell? _ _ (hHeld.2.2.2))).trans (hHeld.2.2.2); have n0_ := yad (Kd.R_below (upR a2.out) hb); have n1_ := yad (blk_below (upB a5.out) hb)
     have n2_ := yad (below_step (by repeat (with_reducible first | exact HB.out | apply yah | apply yaf | apply yag | refine yai ?_ (Aside0.out ‹_›))) hb)
     have n3_ := yad (hbox)
     have n4_ := yad ((by rw [hg]; exact (below_size (by repeat (with_reducible first | exact HB.out | apply yah | apply yaf | apply yag | refine yai ?_ (Aside0.out ‹_›)))) : w.heap.size ≤ a3))
     have n5_ := yad ((by rw [hg]; exact (below_size (by repeat (with_reducible first | exact HB.out | apply yah | apply yaf | apply yag | refine yai ?_ (Aside0.out ‹_›)))) : w.heap.size ≤ a3))
     have n6_ := yad ((by rw [hg]; exact Nat.ne_of_lt (blk_lt (upB a5.out)) : b8 ≠ a3)); have n7_ := yad ((by rw [hg]; exact Nat.ne_of_gt (blk_lt (upB a5.out)) : a3 ≠ b8)); clear a2; clear a5; clear HB; have a2 := n0_; have a5 := n1_; have HB := n2_; have a1 := n3_; have e1 := n4_; have e2 := n5_; have a6 := n6_; have a7 := n7_; clear n0_ n1_ n2_ n3_ n4_ n5_ n6_ n7_; clear hb hbox hg
     refine hK.out _ _ ⟨HS0_, HS1_, HS2_, HS3_⟩ (fun hHeld => ?_)
     clear hK K
     refine norm_ (a' := ?_) ?_ ?_
     rotate_left
     ·
      show Act.put _ (some 8) _ = _
      simp only [Act.put, List.setIfInBounds_toArray, List.set_cons_zero, List.set_cons_succ, i64_w, i32_w]
      rfl
     refine one_ (i := 15) (N := none) q72_16 rfl rfl (one_of HT_.out (by kernel_rfl)) (by decide) (fun K hK => ?_)
     have w2 : w43.cell? ⟨a3, 0, none⟩ = some (.int .i64 0) := (blk_cell a1.out 0).trans rfl; have s8 := yaj a1.out 0; have i0 := a6.out; have i1 := a7.out; have w3 : w43.cell? ⟨a3, 1, none⟩ = some (.int .i64 0) := (blk_cell a1.out 1).trans rfl; have s9 := yaj a1.out 1; have i2 := a6.out; have i3 := a7.out; have w7 : w43.cell? ⟨a3, 2, none⟩ = some (.int .i64 0) := (blk_cell a1.out 2).trans rfl; have t0 := yaj a1.out 2; have i4 := a6.out; have i5 := a7.out; have w8 : w43.cell? ⟨a3, 3, none⟩ = some (.int .i64 0) := (blk_cell a1.out 3).trans rfl; have t1 := yaj a1.out 3; have i6 := a6.out; have i7 := a7.out; have w9 : w43.cell? ⟨a3, 4, none⟩ = some (.int .i64 0) := (blk_cell a1.out 4).trans rfl; have t2 := yaj a1.out 4; have i8 := a6.out; have i9 := a7.out
     refine skip_ (by rfl) rfl (st5_ (b := a3) (c0 := b2) (c1 := (rd a4 0)) (c2 := (rd a4 1)) (c3 := (rd a4 2)) (c4 := (rd a4 3)) rfl rfl a1.out) ?_
     have hne_ := yaa (yab a2.out a1.out (by decide))
     refine hK.out _ _ ⟨cell5_ hne_ hHeld.1, cell5_ hne_ hHeld.2.1, cell5_ hne_ hHeld.2.2.1, cell5_ hne_ hHeld.2.2.2⟩ (fun hHeld => ?_)
     clear hK K
     refine done_ (done_of HT_.out (by kernel_rfl)) ?_
     have t3 := a7.out; have t4 := a6.out; obtain ⟨j0, j2, j3, j4, j5⟩ := cc5_ a1.out; obtain ⟨j6, j7, j8, j9, k0⟩ := cf5_ a1.out
     try go_wp2_with (first | ((with_reducible refine gd_ 49 rfl ?_); refine Kd.event_run rfl (ld5_ (b := a3) 49 (x0 := b2) (x1 := (rd a4 0)) (x2 := (rd a4 1)) (x3 := (rd a4 2)) (x4 := (rd a4 3)) rfl (by (repeat refine oneB ?_); refine yal (cs := #[.int .i64 b2, .int .i64 (rd a4 0), .int .i64 (rd a4 1), .int .i64 (rd a4 2), .int .i64 0]) ?_ 4 _ rfl; refine yal (cs := #[.int .i64 b2, .int .i64 (rd a4 0), .int .i64 (rd a4 1), .int .i64 0, .int .i64 0]) ?_ 3 _ rfl; refine yal (cs := #[.int .i64 b2, .int .i64 (rd a4 0), .int .i64 0, .int .i64 0, .int .i64 0]) ?_ 2 _ rfl; refine yal (cs := #[.int .i64 b2, .int .i64 0, .int .i64 0, .int .i64 0, .int .i64 0]) ?_ 1 _ rfl; refine yal (cs := #[.int .i64 0, .int .i64 0, .int .i64 0, .int .i64 0, .int .i64 0]) ?_ 0 _ rfl; exact upB a1.out)) ?_) | ((with_reducible refine gc_ 82 rfl ?_); refine gl_ (some 50) rfl Tryz.func82 #[.agg #[.int .i64 b2, .int .i64 (rd a4 0), .int .i64 (rd a4 1), .int .i64 (rd a4 2), .int .i64 (rd a4 3)]] ?_; (with_reducible refine (spec_OpText.calls k2 b2 (rd a4 0) (rd a4 1) (rd a4 2) (rd a4 3) d8 _ A27.out).mono ?_); rintro e w51 ⟨rfl, hb⟩; refine ⟨_, rfl, ?_⟩; replace a2 := yad (Kd.R_below (by (with_reducible repeat (first | apply Kd.R_alloc | apply Kd.R_drewN | apply Kd.R_drew)); exact (Kd.R_mono (Kd.R_far (p := ⟨a3, 4, none⟩) (Kd.R_far (p := ⟨a3, 3, none⟩) (Kd.R_far (p := ⟨a3, 2, none⟩) (Kd.R_far (p := ⟨a3, 1, none⟩) (Kd.R_far (p := ⟨a3, 0, none⟩) (Kd.R_types a2.out a1.out (by decide)) (fun _ hk => hk.2) (.int .i64 b2)) (fun _ hk => hk.2) (.int .i64 (rd a4 0))) (fun _ hk => hk.2) (.int .i64 (rd a4 1))) (fun _ hk => hk.2) (.int .i64 (rd a4 2))) (fun _ hk => hk.2) (.int .i64 (rd a4 3))) (fun _ h_ => h_.1))) hb); replace a5 := yad (blk_below (g := b8) (o := .cells #[.int .i64 b7, .int .i64 b1, .int .i64 b0, .int .i64 a9, .int .i64 a8] 65 (0, 0)) (by repeat (with_reducible first | exact a5.out | refine oneB ?_ | refine blk_far ?_ a6.out _)) hb); replace a1 := yad (blk_below (g := a3) (o := .cells #[.int .i64 b2, .int .i64 (rd a4 0), .int .i64 (rd a4 1), .int .i64 (rd a4 2), .int .i64 (rd a4 3)] 65 (0, 0)) (by (repeat refine oneB ?_); refine yal (cs := #[.int .i64 b2, .int .i64 (rd a4 0), .int .i64 (rd a4 1), .int .i64 (rd a4 2), .int .i64 0]) ?_ 4 _ rfl; refine yal (cs := #[.int .i64 b2, .int .i64 (rd a4 0), .int .i64 (rd a4 1), .int .i64 0, .int .i64 0]) ?_ 3 _ rfl; refine yal (cs := #[.int .i64 b2, .int .i64 (rd a4 0), .int .i64 0, .int .i64 0, .int .i64 0]) ?_ 2 _ rfl; refine yal (cs := #[.int .i64 b2, .int .i64 0, .int .i64 0, .int .i64 0, .int .i64 0]) ?_ 1 _ rfl; refine yal (cs := #[.int .i64 0, .int .i64 0, .int .i64 0, .int .i64 0, .int .i64 0]) ?_ 0 _ rfl; exact upB a1.out) hb); replace HB := yad (below_step (by repeat (with_reducible first | exact HB.out | apply yah | apply yaf | apply yag | refine yai ?_ (Aside0.out ‹_›))) hb); (try clear hb); obtain ⟨k3, k4, k5, k6, k7⟩ := cc5_ a1.out; obtain ⟨k8, k9, l2, l3, l4⟩ := cf5_ a1.out; obtain ⟨l5, l6, l7, l8, l9⟩ := cc5_ a5.out; obtain ⟨m0, m1, m2, m3⟩ := cf4_ a5.out; have m4 := yaj a5.out 4))
     refine bodyPost_ret (results_ct rfl _ _ b8 65 #[.int .i64 b2, .int .i64 (rd a4 0), .int .i64 (rd a4 1), .int .i64 (rd a4 2), .int .i64 (rd a4 3)] (0, 0) _ rfl (by (repeat refine oneB ?_); refine yal (cs := #[.int .i64 b2, .int .i64 (rd a4 0), .int .i64 (rd a4 1), .int .i64 (rd a4 2), .int .i64 a8]) ?_ 4 _ rfl; refine yal (cs := #[.int .i64 b2, .int .i64 (rd a4 0), .int .i64 (rd a4 1), .int .i64 a9, .int .i64 a8]) ?_ 3 _ rfl; refine yal (cs := #[.int .i64 b2, .int .i64 (rd a4 0), .int .i64 b0, .int .i64 a9, .int .i64 a8]) ?_ 2 _ rfl; refine yal (cs := #[.int .i64 b2, .int .i64 b1, .int .i64 b0, .int .i64 a9, .int .i64 a8]) ?_ 1 _ rfl; refine yal (cs := #[.int .i64 b7, .int .i64 b1, .int .i64 b0, .int .i64 a9, .int .i64 a8]) ?_ 0 _ rfl; exact upB a5.out) Tryz.underlying65 rfl (by kernel_rfl)) rfl ?_
     exact ⟨by first | rfl | (simp [*, errW_none, errW_some] <;> rfl), by repeat (with_reducible first | exact HB.out | apply yah | apply yaf | apply yag | refine yai ?_ (Aside0.out ‹_›))⟩
end
section
open Go.Proofs.YtmplnpjdbfedbaaGreatDoorW.PrintWords.Aside0 renaming mk → yaa
open Go.Proofs.YtmplnpjdbfedbaaGreatDoorW.PrintWords.Kd renaming R_far → yab
def spec_l7Read.l0 : Nat → List (S65) → List ByteArray → Int → Option ((List (S65)) × Bool)
 | 0, _, _, _ => none
 | k + 1, x4, x5, x6 => if x6 < (x5.length : Int) then (if 0 ≤ x6 then ((spec_OpRead.f k (rdOf ByteArray.empty x5 x6)).bind fun bt108 => (if bt108.2.2.2.2.2 = true then (if x4.length < 3518437208883 then (spec_l7Read.l0 k (x4 ++ [(⟨bt108.1, bt108.2.1, bt108.2.2.1, bt108.2.2.2.1, bt108.2.2.2.2.1⟩ : S65)]) x5 (wrap64 (x6 + 1))) else (none)) else (some ((([] : List (S65))), false)))) else (none)) else (some (x4, true))
def spec_l7Read.f (k : Nat) (a0 : ByteArray) : Option ((List (S65)) × Bool) := (some (([] : List (S65)) : List (S65))).bind fun y101 => (if a0.toList = ([45] : List UInt8) then (some (y101, true)) else ((spec_l7Cut.f k a0 44).bind fun t104 => (spec_l7Read.l0 k y101 t104 0)))
set_option maxHeartbeats 8000000 in
set_option maxRecDepth 100000 in
theorem spec_l7Read.calls (k : Nat) (a0 : ByteArray) (r1 : List (S65)) (r2 : Bool) (w : World) (h : spec_l7Read.f k a0 = some (r1, r2)) :
  Calls Tryz.prog 38 #[.string a0] w fun e w' => ∃ v0_ : Value, e = .returned (.tuple #[v0_, .bool r2]) ∧ Kd.R k65 65 w' w.heap.size (fun _ => True) v0_ r1 ∧ Below w.heap.size w w' := by
 have hu65 := Tryz.underlying65; have HB := yaa (Below.refl w.heap.size w); have H : ((some (([] : List (S65)) : List (S65))).bind fun y101 => (if a0.toList = ([45] : List UInt8) then (some (y101, true)) else ((spec_l7Cut.f k a0 44).bind fun b1 => (spec_l7Read.l0 k y101 b1 0)))) = some (r1, r2) := h; clear h; obtain ⟨y101, hy101, H⟩ := bindY H; (try dsimp only at H); have Ny101 := yaa hy101; clear hy101
 by_cases c2 : a0.toList = ([45] : List UInt8)
 ·
  rw [if_pos c2] at H
  have b9 := beq_iff_eq.mpr c2; have c0 := bne_eq_false_iff_eq.mpr c2; clear c2
  simp only [Option.some.injEq, Prod.mk.injEq] at H
  obtain ⟨rfl, rfl⟩ := H
  go_enter Tryz.func38, Tryz.ntmps38
  go_wp2_with (first | ((with_reducible refine gd_ 9 rfl ?_); refine Kd.R_lit k65 _ 65 ?hg (N := 9) ?hd (xs := ([] : List (S65))) (inner := []) (ok := fun _ => True) (okp := fun _ => True) ?hr ?hp (fun _ hk => hk) trivial (Below.refl _ _) (Nat.le_refl _) (by simp) ?_; (case hd => rfl); (case hg => rfl); (case hr => first | (go_simp; done) | (go_simp; rfl)); (case hp => exact (Reps.none _ _)); intro e7 w3 ho4 hb hg_ hnew_; clear hg_ hnew_; (first | rw [← Ny101.out] at ho4 | (simp only [Int.reduceToNat] at ho4; rw [← Ny101.out] at ho4)); have b2 := yaa (Kd.R_lower ho4 (below_size (upH HB.out))); replace HB := yaa (below_step (upH HB.out) hb); clear hb ho4))
  go_ret2
  exact ⟨_, by first | rfl | (simp [*, errW_none, errW_some] <;> rfl), by first | exact b2.out | exact upR b2.out, upH HB.out⟩
 rw [if_neg c2] at H
 have b9 := beq_eq_false_iff_ne.mpr c2; have c0 := bne_iff_ne.mpr c2; obtain ⟨b1, A5, H⟩ := bindA H; (try dsimp only at H); have H' := yaa H; clear H
 go_enter Tryz.func38, Tryz.ntmps38
 go_wp2_with (first | ((with_reducible refine gd_ 9 rfl ?_); refine Kd.R_lit k65 _ 65 ?hg (N := 9) ?hd (xs := ([] : List (S65))) (inner := []) (ok := fun _ => True) (okp := fun _ => True) ?hr ?hp (fun _ hk => hk) trivial (Below.refl _ _) (Nat.le_refl _) (by simp) ?_; (case hd => rfl); (case hg => rfl); (case hr => first | (go_simp; done) | (go_simp; rfl)); (case hp => exact (Reps.none _ _)); intro e7 w6 ho7 hb hg_ hnew_; clear hg_ hnew_; (first | rw [← Ny101.out] at ho7 | (simp only [Int.reduceToNat] at ho7; rw [← Ny101.out] at ho7)); have b2 := yaa (Kd.R_lower ho7 (below_size (upH HB.out))); replace HB := yaa (below_step (upH HB.out) hb); clear hb ho7) | ((with_reducible refine gc_ 37 rfl ?_); refine gl_ (some 14) rfl Tryz.func37 #[.string a0, .int .u8 44] ?_; (with_reducible refine (spec_l7Cut.calls k a0 44 b1 _ A5.out).mono ?_); rintro e w8 ⟨e8, rfl, ho0, hb⟩; refine ⟨_, rfl, ?_⟩; replace b2 := yaa (Kd.R_below (upR b2.out) hb); have b7 := yaa (Kd.R_lower ho0 (below_size (upH HB.out))); replace HB := yaa (below_step (upH HB.out) hb); (try clear hb ho0)))
 (try simp only [Act.put, List.setIfInBounds_toArray, List.set_cons_zero, List.set_cons_succ])
 go_loopg [4, 6] k (fun kq v4 v6 w' => ∃ (b3 : List (S65)) (a7 : Int), v6 = .int .i64 a7 ∧ Aside0 (spec_l7Read.l0 kq b3 b1 a7 = some (r1, r2)) ∧ Aside0 (kq ≤ k) ∧ Aside0 (Kd.R k65 65 w' w.heap.size (fun _ => True) v4 b3) ∧ Aside0 (Kd.R Kd.string 9 w' w.heap.size (fun _ => True) e8 b1) ∧ Aside0 (Below w.heap.size w w'))
 case atStart => exact ⟨(y101), (0), (by first | rfl | (simp; done) | (simp [*]; done)), H', ⟨Nat.le_refl _⟩, ⟨by first | exact b2.out | exact upR b2.out⟩, ⟨by first | exact b7.out | exact upR b7.out⟩, ⟨upH HB.out⟩⟩
 case round =>
  clear H'; (try clear c2); (try clear b9); (try clear c0); (try clear p2); (try clear c3); obtain ⟨b3, a7, rfl, HA, HK1, a9, a8, HB⟩ := hrel
  cases gk with
  | zero => exact absurd HA.out (by simp [spec_l7Read.l0])
  | succ k1 =>
   have H := HA.out; clear HA
   simp only [spec_l7Read.l0] at H
   by_cases c9 : a7 < (b1.length : Int)
   rotate_left
   ·
    rw [if_neg c9] at H
    have e9 : decide (a7 < (b1.length : Int)) = false := decide_eq_false c9; clear c9
    simp only [Option.some.injEq, Prod.mk.injEq] at H
    obtain ⟨rfl, rfl⟩ := H; obtain ⟨g2, g3, f5⟩ := Kd.R_slice a8.out; subst f5
    go_wp2
    go_ret2
    exact ⟨_, by first | rfl | (simp [*, errW_none, errW_some] <;> rfl), by first | exact a9.out | exact upR a9.out, upH HB.out⟩
   rw [if_pos c9] at H
   have e9 : decide (a7 < (b1.length : Int)) = true := decide_eq_true c9; clear c9
   by_cases c10 : 0 ≤ a7
   rotate_left
   ·
    rw [if_neg c10] at H
    exact absurd H (by simp)
   rw [if_pos c10] at H
   replace c10 := decide_eq_true c10; obtain ⟨⟨a2, a3, a4, a6, b0, f0⟩, A11, H⟩ := bindA H; (try dsimp only at H)
   by_cases c12 : f0 = true
   ·
    subst c12
    rw [if_pos rfl] at H
    by_cases c13 : b3.length < 3518437208883
    ·
     rw [if_pos c13] at H
     have LMc13 := yaa c13; clear c13; obtain ⟨y115, hy115⟩ : ∃ y_ : List (S65), y_ = (b3 ++ [(⟨a2, a3, a4, a6, b0⟩ : S65)]) := ⟨_, rfl⟩
     replace H : (spec_l7Read.l0 k1 y115 b1 (wrap64 (a7 + 1))) = some (r1, r2) := by first | (rw [hy115]; with_reducible exact H) | (have H2_ := (Option.bind_some _ _).symm.trans H; rw [hy115]; with_reducible exact H2_) | (have H2_ := (Option.bind_some _ _).symm.trans H; with_reducible exact H2_) | with_reducible exact H | (rw [hy115]; exact H) | exact H
     have Ny115 := yaa hy115; clear hy115; have H' := yaa H; clear H; obtain ⟨f6, f7, f1⟩ := Kd.R_slice a8.out; subst f1; have p107 : 0 ≤ (a7 : Int) := of_decide_eq_true (by assumption); have q107 : a7 < (b1.length : Int) := of_decide_eq_true (by assumption); obtain ⟨ad107, b8, b6⟩ := Kd.at_string (Kd.R_reads' a8.out).2.2 a7 p107 q107
     cases b8
     replace p107 := eq_true p107; replace q107 := eq_true q107
     go_wp2_with (first | ((with_reducible refine gc_ 72 rfl ?_); refine gl_ (some 26) rfl Tryz.func72 #[.string (rdOf ByteArray.empty b1 a7)] ?_; (with_reducible refine (spec_OpRead.calls k1 (rdOf ByteArray.empty b1 a7) a2 a3 a4 a6 b0 true _ A11.out).mono ?_); rintro e w15 ⟨rfl, hb⟩; refine ⟨_, rfl, ?_⟩; replace a9 := yaa (Kd.R_below (upR a9.out) hb); replace a8 := yaa (Kd.R_below (upR a8.out) hb); replace HB := yaa (below_step (upH HB.out) hb); (try clear hb)) | ((with_reducible refine gd_ 7 rfl ?_); refine bx_ 7 rfl #[.int .i64 0, .int .i64 0, .int .i64 0, .int .i64 0, .int .i64 0] 65 ?_; intro a1 hg w16 hbox hb; replace a9 := yaa (Kd.R_below (Kd.R_elderB (upR a9.out) a1 (Nat.le_of_eq hg.symm)) hb); replace a8 := yaa (Kd.R_below (upR a8.out) hb); have a5 := yaa (hbox); have b5 := yaa ((by rw [hg]; exact (below_size (upH HB.out)) : w.heap.size ≤ a1)); replace HB := yaa (below_step (upH HB.out) hb); have c1 := b5; clear hb hbox hg; obtain ⟨c6, c7, c8, d0, d1⟩ := cc5_ a5.out; obtain ⟨d2, d3, d4, d5⟩ := cf4_ a5.out; have d6 := blk_frozen a5.out 4) | ((with_reducible refine gate_builtin (b := .append) (xs := #[.tmp 32, .tmp 34]) rfl ?_); at_builtin; refine Kd.R_append k65 (w0 := w) w.heap.size rfl (.tmp 32) (.tmp 34) 23 65 (.agg #[(.int .i64 0), (.int .i64 0), (.int .i64 0), (.int .i64 0), (.int .i64 0)]) 40 rfl Tryz.underlying23 info65 rfl (by decide) (by omega) u4 b3 (⟨a2, a3, a4, a6, b0⟩ : S65) [.int .i64 a2, .int .i64 a3, .int .i64 a4, .int .i64 a6, .int .i64 b0] (fun k_ => k_ ≠ a1) (fun _ => False) rfl (by first | (go_simp; done) | (go_simp; rfl)) ?aP (fun _ hk => hk.elim) ?aF ?aO ?aB ?aS ?aL ?_; (case aP => exact k65_mkM _ _ _ (⟨a2, a3, a4, a6, b0⟩ : S65)); (case aB => exact (by repeat (with_reducible first | exact HB.out | apply below_alloc | apply pw_below_drewN | apply below_drew1 | refine below_set ?_ (Aside0.out ‹_›)))); (case aF => exact (fun k_ hk => Kd.freshB (g := a1) (o := .cells #[.int .i64 a2, .int .i64 a3, .int .i64 a4, .int .i64 a6, .int .i64 b0] 65 (0, 0)) (by (repeat refine oneB ?_); refine blk_put (cs := #[.int .i64 a2, .int .i64 a3, .int .i64 a4, .int .i64 a6, .int .i64 0]) ?_ 4 _ rfl; refine blk_put (cs := #[.int .i64 a2, .int .i64 a3, .int .i64 a4, .int .i64 0, .int .i64 0]) ?_ 3 _ rfl; refine blk_put (cs := #[.int .i64 a2, .int .i64 a3, .int .i64 0, .int .i64 0, .int .i64 0]) ?_ 2 _ rfl; refine blk_put (cs := #[.int .i64 a2, .int .i64 0, .int .i64 0, .int .i64 0, .int .i64 0]) ?_ 1 _ rfl; refine blk_put (cs := #[.int .i64 0, .int .i64 0, .int .i64 0, .int .i64 0, .int .i64 0]) ?_ 0 _ rfl; exact upB a5.out) k_ hk)); (case aO => exact (by (with_reducible repeat (first | apply Kd.R_alloc | apply Kd.R_drewN | apply Kd.R_drew)); exact Kd.R_mono (yab (p := ⟨a1, 4, none⟩) (yab (p := ⟨a1, 3, none⟩) (yab (p := ⟨a1, 2, none⟩) (yab (p := ⟨a1, 1, none⟩) (yab (p := ⟨a1, 0, none⟩) (Kd.R_mono a9.out (fun k_ hk => (⟨hk, hk.2⟩ : _ ∧ k_ ≠ a1))) (fun _ hk => hk.2) (.int .i64 a2)) (fun _ hk => hk.2) (.int .i64 a3)) (fun _ hk => hk.2) (.int .i64 a4)) (fun _ hk => hk.2) (.int .i64 a6)) (fun _ hk => hk.2) (.int .i64 b0)) (fun _ hk => hk.1.2))); (case aS => exact (below_size (by repeat (with_reducible first | exact HB.out | apply below_alloc | apply pw_below_drewN | apply below_drew1 | refine below_set ?_ (Aside0.out ‹_›))))); (case aL => have := LMc13.out; omega); intro f8 w18 ho hb hg hat; rw [← Ny115.out] at ho; replace a8 := yaa (Kd.R_over' (by (with_reducible repeat (first | apply Kd.R_alloc | apply Kd.R_drewN | apply Kd.R_drew)); exact (Kd.R_mono (yab (p := ⟨a1, 4, none⟩) (yab (p := ⟨a1, 3, none⟩) (yab (p := ⟨a1, 2, none⟩) (yab (p := ⟨a1, 1, none⟩) (yab (p := ⟨a1, 0, none⟩) (Kd.R_types a8.out a5.out (by decide)) (fun _ hk => hk.2) (.int .i64 a2)) (fun _ hk => hk.2) (.int .i64 a3)) (fun _ hk => hk.2) (.int .i64 a4)) (fun _ hk => hk.2) (.int .i64 a6)) (fun _ hk => hk.2) (.int .i64 b0)) (fun _ h_ => h_.1))) (Kd.R_typed (by (with_reducible repeat (first | apply Kd.R_alloc | apply Kd.R_drewN | apply Kd.R_drew)); exact (Kd.R_mono (yab (p := ⟨a1, 4, none⟩) (yab (p := ⟨a1, 3, none⟩) (yab (p := ⟨a1, 2, none⟩) (yab (p := ⟨a1, 1, none⟩) (yab (p := ⟨a1, 0, none⟩) (Kd.R_mono a9.out (fun k_ hk => (⟨hk, hk.2⟩ : _ ∧ k_ ≠ a1))) (fun _ hk => hk.2) (.int .i64 a2)) (fun _ hk => hk.2) (.int .i64 a3)) (fun _ hk => hk.2) (.int .i64 a4)) (fun _ hk => hk.2) (.int .i64 a6)) (fun _ hk => hk.2) (.int .i64 b0)) (fun _ h_ => h_.1)))) (by decide) hg); replace a5 := yaa (blk_grown (g := a1) (o := .cells #[.int .i64 a2, .int .i64 a3, .int .i64 a4, .int .i64 a6, .int .i64 b0] 65 (0, 0)) (by (repeat refine oneB ?_); refine blk_put (cs := #[.int .i64 a2, .int .i64 a3, .int .i64 a4, .int .i64 a6, .int .i64 0]) ?_ 4 _ rfl; refine blk_put (cs := #[.int .i64 a2, .int .i64 a3, .int .i64 a4, .int .i64 0, .int .i64 0]) ?_ 3 _ rfl; refine blk_put (cs := #[.int .i64 a2, .int .i64 a3, .int .i64 0, .int .i64 0, .int .i64 0]) ?_ 2 _ rfl; refine blk_put (cs := #[.int .i64 a2, .int .i64 0, .int .i64 0, .int .i64 0, .int .i64 0]) ?_ 1 _ rfl; refine blk_put (cs := #[.int .i64 0, .int .i64 0, .int .i64 0, .int .i64 0, .int .i64 0]) ?_ 0 _ rfl; exact upB a5.out) hg (Kd.R_away a9.out (fun _ hk => hk.2))); replace HB := yaa (hb); have c4 := yaa (ho); clear a9; clear ho hb hg hat))
     go_roundg k1
     case measure => have := HK1.out; omega
     case rel => exact ⟨(y115), (wrap64 (a7 + 1)), (by first | rfl | (simp; done) | (simp [*]; done)), H', ⟨by have := HK1.out; omega⟩, ⟨by (with_reducible repeat (first | apply Kd.R_alloc | apply Kd.R_drewN | apply Kd.R_drew)); exact Kd.R_mono c4.out (fun _ hk => trivial)⟩, ⟨by first | exact a8.out | exact upR a8.out⟩, ⟨by repeat (with_reducible first | exact HB.out | apply below_alloc | apply pw_below_drewN | apply below_drew1 | refine below_set ?_ (Aside0.out ‹_›))⟩⟩
    rw [if_neg c13] at H
    exact absurd H (by simp)
   replace c12 := Bool.eq_false_iff.mpr c12
   subst c12
   rw [if_neg (show ¬ (false = true) by decide)] at H
   obtain ⟨y118, hy118⟩ : ∃ y_ : List (S65), y_ = (([] : List (S65))) := ⟨_, rfl⟩
   replace H : (some (y118, false)) = some (r1, r2) := by first | (rw [hy118]; with_reducible exact H) | (have H2_ := (Option.bind_some _ _).symm.trans H; rw [hy118]; with_reducible exact H2_) | (have H2_ := (Option.bind_some _ _).symm.trans H; with_reducible exact H2_) | with_reducible exact H | (rw [hy118]; exact H) | exact H
   have Ny118 := yaa hy118; clear hy118
   simp only [Option.some.injEq, Prod.mk.injEq] at H
   obtain ⟨rfl, rfl⟩ := H; obtain ⟨f9, g0, f4⟩ := Kd.R_slice a8.out; subst f4; have p107 : 0 ≤ (a7 : Int) := of_decide_eq_true (by assumption); have q107 : a7 < (b1.length : Int) := of_decide_eq_true (by assumption); obtain ⟨ad107, b8, b6⟩ := Kd.at_string (Kd.R_reads' a8.out).2.2 a7 p107 q107
   cases b8
   replace p107 := eq_true p107; replace q107 := eq_true q107
   go_wp2_with (first | ((with_reducible refine gc_ 72 rfl ?_); refine gl_ (some 26) rfl Tryz.func72 #[.string (rdOf ByteArray.empty b1 a7)] ?_; (with_reducible refine (spec_OpRead.calls k1 (rdOf ByteArray.empty b1 a7) a2 a3 a4 a6 b0 false _ A11.out).mono ?_); rintro e w20 ⟨rfl, hb⟩; refine ⟨_, rfl, ?_⟩; replace a9 := yaa (Kd.R_below (upR a9.out) hb); replace a8 := yaa (Kd.R_below (upR a8.out) hb); replace HB := yaa (below_step (upH HB.out) hb); (try clear hb)) | ((with_reducible refine gd_ 7 rfl ?_); refine bx_ 7 rfl #[.int .i64 0, .int .i64 0, .int .i64 0, .int .i64 0, .int .i64 0] 65 ?_; intro a1 hg w21 hbox hb; replace a9 := yaa (Kd.R_below (Kd.R_elderB (upR a9.out) a1 (Nat.le_of_eq hg.symm)) hb); replace a8 := yaa (Kd.R_below (upR a8.out) hb); have a5 := yaa (hbox); have b5 := yaa ((by rw [hg]; exact (below_size (upH HB.out)) : w.heap.size ≤ a1)); replace HB := yaa (below_step (upH HB.out) hb); have c1 := b5; clear hb hbox hg; obtain ⟨d7, d8, d9, e0, e1⟩ := cc5_ a5.out; obtain ⟨e2, e3, e4, e5⟩ := cf4_ a5.out; have e6 := blk_frozen a5.out 4) | ((with_reducible refine gd_ 31 rfl ?_); refine Kd.R_lit k65 _ 65 ?hg (N := 31) ?hd (xs := ([] : List (S65))) (inner := []) (ok := fun _ => True) (okp := fun _ => True) ?hr ?hp (fun _ hk => hk) trivial (Below.refl _ _) (Nat.le_refl _) (by simp) ?_; (case hd => rfl); (case hg => rfl); (case hr => first | (go_simp; done) | (go_simp; rfl)); (case hp => exact (Reps.none _ _)); intro g1 w23 b4 hb hg_ hnew_; clear hg_ hnew_; (first | rw [← Ny118.out] at b4 | (simp only [Int.reduceToNat] at b4; rw [← Ny118.out] at b4)); replace a8 := yaa (Kd.R_below (by (with_reducible repeat (first | apply Kd.R_alloc | apply Kd.R_drewN | apply Kd.R_drew)); exact (Kd.R_mono (yab (p := ⟨a1, 4, none⟩) (yab (p := ⟨a1, 3, none⟩) (yab (p := ⟨a1, 2, none⟩) (yab (p := ⟨a1, 1, none⟩) (yab (p := ⟨a1, 0, none⟩) (Kd.R_types a8.out a5.out (by decide)) (fun _ hk => hk.2) (.int .i64 a2)) (fun _ hk => hk.2) (.int .i64 a3)) (fun _ hk => hk.2) (.int .i64 a4)) (fun _ hk => hk.2) (.int .i64 a6)) (fun _ hk => hk.2) (.int .i64 b0)) (fun _ h_ => h_.1))) hb); have c5 := yaa (Kd.R_lower (Kd.R_newB (Kd.R_new' b4 (Kd.R_lt (by (with_reducible repeat (first | apply Kd.R_alloc | apply Kd.R_drewN | apply Kd.R_drew)); exact (Kd.R_mono (yab (p := ⟨a1, 4, none⟩) (yab (p := ⟨a1, 3, none⟩) (yab (p := ⟨a1, 2, none⟩) (yab (p := ⟨a1, 1, none⟩) (yab (p := ⟨a1, 0, none⟩) (Kd.R_mono a9.out (fun k_ hk => (⟨hk, hk.2⟩ : _ ∧ k_ ≠ a1))) (fun _ hk => hk.2) (.int .i64 a2)) (fun _ hk => hk.2) (.int .i64 a3)) (fun _ hk => hk.2) (.int .i64 a4)) (fun _ hk => hk.2) (.int .i64 a6)) (fun _ hk => hk.2) (.int .i64 b0)) (fun _ h_ => h_.1))))) (g := a1) (o := .cells #[.int .i64 a2, .int .i64 a3, .int .i64 a4, .int .i64 a6, .int .i64 b0] 65 (0, 0)) (by (repeat refine oneB ?_); refine blk_put (cs := #[.int .i64 a2, .int .i64 a3, .int .i64 a4, .int .i64 a6, .int .i64 0]) ?_ 4 _ rfl; refine blk_put (cs := #[.int .i64 a2, .int .i64 a3, .int .i64 a4, .int .i64 0, .int .i64 0]) ?_ 3 _ rfl; refine blk_put (cs := #[.int .i64 a2, .int .i64 a3, .int .i64 0, .int .i64 0, .int .i64 0]) ?_ 2 _ rfl; refine blk_put (cs := #[.int .i64 a2, .int .i64 0, .int .i64 0, .int .i64 0, .int .i64 0]) ?_ 1 _ rfl; refine blk_put (cs := #[.int .i64 0, .int .i64 0, .int .i64 0, .int .i64 0, .int .i64 0]) ?_ 0 _ rfl; exact upB a5.out)) (below_size (by repeat (with_reducible first | exact HB.out | apply below_alloc | apply pw_below_drewN | apply below_drew1 | refine below_set ?_ (Aside0.out ‹_›))))); replace a9 := yaa (Kd.R_elder' (by (with_reducible repeat (first | apply Kd.R_alloc | apply Kd.R_drewN | apply Kd.R_drew)); exact (Kd.R_mono (yab (p := ⟨a1, 4, none⟩) (yab (p := ⟨a1, 3, none⟩) (yab (p := ⟨a1, 2, none⟩) (yab (p := ⟨a1, 1, none⟩) (yab (p := ⟨a1, 0, none⟩) (Kd.R_mono a9.out (fun k_ hk => (⟨hk, hk.2⟩ : _ ∧ k_ ≠ a1))) (fun _ hk => hk.2) (.int .i64 a2)) (fun _ hk => hk.2) (.int .i64 a3)) (fun _ hk => hk.2) (.int .i64 a4)) (fun _ hk => hk.2) (.int .i64 a6)) (fun _ hk => hk.2) (.int .i64 b0)) (fun _ h_ => h_.1))) (Kd.R_base b4) hb); replace a5 := yaa (blk_below (g := a1) (o := .cells #[.int .i64 a2, .int .i64 a3, .int .i64 a4, .int .i64 a6, .int .i64 b0] 65 (0, 0)) (by (repeat refine oneB ?_); refine blk_put (cs := #[.int .i64 a2, .int .i64 a3, .int .i64 a4, .int .i64 a6, .int .i64 0]) ?_ 4 _ rfl; refine blk_put (cs := #[.int .i64 a2, .int .i64 a3, .int .i64 a4, .int .i64 0, .int .i64 0]) ?_ 3 _ rfl; refine blk_put (cs := #[.int .i64 a2, .int .i64 a3, .int .i64 0, .int .i64 0, .int .i64 0]) ?_ 2 _ rfl; refine blk_put (cs := #[.int .i64 a2, .int .i64 0, .int .i64 0, .int .i64 0, .int .i64 0]) ?_ 1 _ rfl; refine blk_put (cs := #[.int .i64 0, .int .i64 0, .int .i64 0, .int .i64 0, .int .i64 0]) ?_ 0 _ rfl; exact upB a5.out) hb); replace HB := yaa (below_step (by repeat (with_reducible first | exact HB.out | apply below_alloc | apply pw_below_drewN | apply below_drew1 | refine below_set ?_ (Aside0.out ‹_›))) hb); clear hb b4))
   go_ret2
   exact ⟨_, by first | rfl | (simp [*, errW_none, errW_some] <;> rfl), by (with_reducible repeat (first | apply Kd.R_alloc | apply Kd.R_drewN | apply Kd.R_drew)); exact Kd.R_mono c5.out (fun _ hk => trivial), by repeat (with_reducible first | exact HB.out | apply below_alloc | apply pw_below_drewN | apply below_drew1 | refine below_set ?_ (Aside0.out ‹_›))⟩
end
section
open Go.Proofs.YtmplnpjdbfedbaaGreatDoorW.PrintWords.Aside0 renaming mk → yaa
open Go.Proofs.YtmplnpjdbfedbaaGreatDoorW.PrintWords renaming pw_below_drewN → yab, below_drew1 → yad, below_alloc → yae, below_set → yaf, add_block → yai, blk_below → yak, below_step → yal, Aside0 → yan, below_size → yap
open Go.Proofs.YtmplnpjdbfedbaaGreatDoorW.PrintWords.Kd renaming own_blk → yac, R_ne → yag, R_below → yah, R_far → yaj, R_reads' → yam, R_drew → yao
abbrev q14_0 : Array Bool := Array.replicate 12 false
abbrev q14_1 : Array Bool := bl_ 12 1
abbrev q14_2 : Array Bool := bl_ 12 3
abbrev q14_3 : Array Bool := bl_ 12 7
abbrev q14_4 : Array Bool := bl_ 12 23
abbrev q14_5 : Array Bool := bl_ 12 55
abbrev q14_6 : Array Bool := bl_ 12 63
abbrev q14_7 : Array Bool := bl_ 12 127
abbrev q14_8 : Array Bool := bl_ 12 255
abbrev q14_9 : Array Bool := bl_ 12 2047
abbrev q14_10 : Array Bool := bl_ 12 511
abbrev q14_11 : Array Bool := bl_ 12 1279
abbrev q14_12 : Array Bool := bl_ 12 1023
abbrev q14_13 : Array Bool := bl_ 12 1535
abbrev q14_14 : Array Bool := bl_ 12 4095
mutual
def spec_AskRead.j0 : Nat → ByteArray → List ByteArray → Bool → Option ((List (S65)) × ByteArray × Int × Bool)
 | 0, _, _, _ => none
 | k + 1, x0, x4, x18 => if x18 = true then (some (([] : List (S65)), (⟨#[]⟩ : ByteArray), 0, false)) else (if 1 < (x4.length : Int) then ((spec_l7Read.f k (rdOf ByteArray.empty x4 1)).bind fun bt106 => (if 2 < (x4.length : Int) then ((spec_l7Cut.f k (rdOf ByteArray.empty x4 2) 63).bind fun t111 => (if bt106.2 = true then (if (t111.length : Int) = 2 then (if 1 < (t111.length : Int) then (spec_AskRead.j1 k x0 bt106.1 t111 (decide (((rdOf ByteArray.empty t111 1).size : Int) < 3))) else (none)) else (spec_AskRead.j1 k x0 bt106.1 t111 true)) else (spec_AskRead.j1 k x0 bt106.1 t111 true))) else (none))) else (none))
def spec_AskRead.j1 : Nat → ByteArray → List (S65) → List ByteArray → Bool → Option ((List (S65)) × ByteArray × Int × Bool)
 | 0, _, _, _, _ => none
 | k + 1, x0, x5, x7, x44 => if x44 = true then (some (([] : List (S65)), (⟨#[]⟩ : ByteArray), 0, false)) else (if 0 < (x7.length : Int) then (if 1 < (x7.length : Int) then (if 2 ≤ ((rdOf ByteArray.empty x7 1).size : Int) then ((spec_l7Num.f k ((rdOf ByteArray.empty x7 1).extract 2 (rdOf ByteArray.empty x7 1).size)).bind fun t117 => ((spec_AskText.f k x5 (rdOf ByteArray.empty x7 0) t117).bind fun t119 => (if t119.toList = x0.toList then (if x0.toList = ([] : List UInt8) then (some (([] : List (S65)), (⟨#[]⟩ : ByteArray), 0, false)) else (some (x5, rdOf ByteArray.empty x7 0, t117, true))) else (some (([] : List (S65)), (⟨#[]⟩ : ByteArray), 0, false))))) else (none)) else (none)) else (none))
end
def spec_AskRead.f (k : Nat) (a0 : ByteArray) : Option ((List (S65)) × ByteArray × Int × Bool) := (spec_l7Cut.f k a0 47).bind fun t102 => (if (a0.size : Int) > 200 then (spec_AskRead.j0 k a0 t102 true) else (spec_AskRead.j0 k a0 t102 ((t102.length : Int) != 3)))
def spec_AskRead.T8 : Bool × List (List Nat × List Nat) := (true, [([], []), ([], []), ([1], [1]), ([2], [2]), ([], []), ([4], [4]), ([5], [5]), ([6], [6]), ([7], [7]), ([0, 3, 8], [0, 3, 8]), ([], []), ([10, 9, 8, 0, 1, 2, 3, 4, 5, 6, 7, 8, 9, 10], [9, 10])])
def spec_AskRead.B8 : List Nat := [0, 0, 2, 6, 0, 16, 48, 112, 240, 511, 0, 2047]
theorem spec_AskRead.tab8 : rtab .any (opsOf Tryz.f14 8) = spec_AskRead.T8 := by kernel_rfl
theorem spec_AskRead.bits8 : waitsOk spec_AskRead.T8.2 spec_AskRead.B8 = true := by kernel_rfl
theorem ld3_ {ev : Operand → Value} {W : World} {b : Nat} {A : Option Addr} {n c : Nat} {p : ByteArray} {x : Int} {ps : String} (he : ev (.tmp 8) = .pointer (some ⟨b, 0, none⟩)) (h : W.heap[b]? = some (.cells #[.slice A n c, .string p, .int .i64 x] 25 (0, 0))) : (execOp ev { dst := some 56, op := .load 25 (.tmp 8), type := 25, pos := ps, after := #[], guard := none }).run Tryz.prog W = .ok (.value (.agg #[.slice A n c, .string p, .int .i64 x])) W := by
 have hu := Tryz.underlying25
 obtain ⟨a0, a1, a2⟩ := cc3_ h; clear h
 go_simp
theorem st3_ {ev : Operand → Value} {W : World} {b : Nat} {A : Option Addr} {n c : Nat} {p : ByteArray} {x : Int} {ps : String} {af : Array Edge} (he : ev (.tmp 8) = .pointer (some ⟨b, 0, none⟩)) (hv : ev (.tmp 55) = .agg #[.slice A n c, .string p, .int .i64 x]) (h : W.heap[b]? = some (.cells #[.slice none 0 0, .string (⟨#[]⟩ : ByteArray), .int .i64 0] 25 (0, 0))) : (execOp ev { dst := none, op := .store 25 (.tmp 8) (.tmp 55), type := 0, pos := ps, after := af, guard := none }).run Tryz.prog W = .ok .skip (((W.setCell ⟨b, 0, none⟩ (.slice A n c)).setCell ⟨b, 1, none⟩ (.string p)).setCell ⟨b, 2, none⟩ (.int .i64 x)) := by
 have hu := Tryz.underlying25
 obtain ⟨a0, a1, a2⟩ := cc3_ h; obtain ⟨f0, f1, f2⟩ := cf3_ h; clear h
 go_simp
theorem cell3_ {W : World} {b : Nat} {c0 c1 c2 v : Value} {a : Addr} (h : a.block ≠ b) (hc : W.cell? a = some v) : (((W.setCell ⟨b, 0, none⟩ c0).setCell ⟨b, 1, none⟩ c1).setCell ⟨b, 2, none⟩ c2).cell? a = some v :=
 (cell_far (p := ⟨b, 2, none⟩) h _).trans ((cell_far (p := ⟨b, 1, none⟩) h _).trans ((cell_far (p := ⟨b, 0, none⟩) h _).trans hc))
set_option maxHeartbeats 8000000 in
set_option maxRecDepth 100000 in
theorem spec_AskRead.calls (k : Nat) (a0 : ByteArray) (r1 : List (S65)) (r2 : ByteArray) (r3 : Int) (r4 : Bool) (w : World) (h : spec_AskRead.f k a0 = some (r1, r2, r3, r4)) :
  Calls Tryz.prog 14 #[.string a0] w fun e w' => ∃ v0_ : Value, e = .returned (.tuple #[.agg #[v0_, .string r2, .int .i64 r3], .bool r4]) ∧ Kd.R k65 65 w' w.heap.size (fun _ => True) v0_ r1 ∧ Below w.heap.size w w' := by
 have hu25 := Tryz.underlying25; have HB := yaa (Below.refl w.heap.size w); have H : ((spec_l7Cut.f k a0 47).bind fun b4 => (if (a0.size : Int) > 200 then (spec_AskRead.j0 k a0 b4 true) else (spec_AskRead.j0 k a0 b4 ((b4.length : Int) != 3)))) = some (r1, r2, r3, r4) := h; clear h; obtain ⟨b4, A2, H⟩ := bindA H; (try dsimp only at H); have HC3 := yaa H; clear H
 go_enter Tryz.func14, Tryz.ntmps14
 go_upto_region 2 with (first | ((with_reducible refine gd_ 2 rfl ?_); (try (refine gate_guard (by rfl) ?_; dsimp only)); refine bx_ 2 rfl #[.slice none 0 0, .string (⟨#[]⟩ : ByteArray), .int .i64 0] 25 ?_; intro a9 hg w4 hbox hb; have a3 := yaa (hbox); have f2 := yaa ((by rw [hg]; exact (yap (upH HB.out)) : w.heap.size ≤ a9)); replace HB := yaa (yal (upH HB.out) hb); have p6 := f2; clear hb hbox hg) | ((with_reducible refine gc_ 37 rfl ?_); refine gl_ (some 10) rfl Tryz.func37 #[.string a0, .int .u8 47] ?_; (with_reducible refine (spec_l7Cut.calls k a0 47 b4 _ A2.out).mono ?_); rintro e w5 ⟨o5, rfl, ho0, hb⟩; refine ⟨_, rfl, ?_⟩; have d5 := yaa (Kd.R_lower ho0 (yap (by repeat (with_reducible first | exact HB.out | apply yae | apply yab | apply yad | refine yaf ?_ (Aside0.out ‹_›))))); replace a3 := yaa (yak (upB a3.out) hb); replace HB := yaa (yal (by repeat (with_reducible first | exact HB.out | apply yae | apply yab | apply yad | refine yaf ?_ (Aside0.out ‹_›))) hb); (try clear hb ho0)))
 (try simp only [Act.put, List.setIfInBounds_toArray, List.set_cons_zero, List.set_cons_succ])
 go_cut [18] (fun v18 wc => ∃ (kq : Nat) (d9 : Bool), v18 = .bool d9 ∧ yan (spec_AskRead.j0 kq a0 b4 d9 = some (r1, r2, r3, r4)) ∧ yan (kq ≤ k) ∧ yan (Kd.R Kd.string 9 wc w.heap.size (fun _ => True) o5 b4) ∧ yan (wc.heap[a9]? = some (.cells #[(.slice none 0 0), .string (⟨#[]⟩ : ByteArray), .int .i64 0] 25 (0, 0))) ∧ yan (Below w.heap.size w wc))
 case first =>
  have H := HC3.out; clear HC3
  by_cases c6 : (a0.size : Int) > 200
  ·
   rw [if_pos c6] at H
   have d8 : decide (200 < (a0.size : Int)) = true := decide_eq_true c6; have e5 : decide (200 < a0.size) = true := decide_eq_true (by omega); clear c6
   (first | rw [d8] | (simp only [i64_w, i32_w]; rw [d8]) | skip)
   have H' := yaa H; clear H
   go_wp2
   go_meet
   case rel => exact ⟨_, (true), (by first | rfl | (simp; done) | (simp [*]; done)), H', ⟨by first | omega | exact Nat.le_refl _⟩, ⟨by first | exact d5.out | exact upR d5.out⟩, ⟨by exact upB a3.out⟩, ⟨by repeat (with_reducible first | exact HB.out | apply yae | apply yab | apply yad | refine yaf ?_ (Aside0.out ‹_›))⟩⟩
  rw [if_neg c6] at H
  have d8 : decide (200 < (a0.size : Int)) = false := decide_eq_false c6; have e5 : decide (200 < a0.size) = false := decide_eq_false (by omega); clear c6
  (first | rw [d8] | (simp only [i64_w, i32_w]; rw [d8]) | skip)
  have H' := yaa H; clear H; obtain ⟨Ao7, co7, eo7⟩ := Kd.R_slice d5.out; subst eo7
  go_wp2
  go_meet
  case rel => exact ⟨_, (((b4.length : Int) != 3)), (by first | rfl | (simp; done) | (simp [*]; done)), H', ⟨by first | omega | exact Nat.le_refl _⟩, ⟨by first | exact d5.out | exact upR d5.out⟩, ⟨by exact upB a3.out⟩, ⟨by repeat (with_reducible first | exact HB.out | apply yae | apply yab | apply yad | refine yaf ?_ (Aside0.out ‹_›))⟩⟩
 case rest =>
  clear HC3; (try clear c1); (try clear p2); (try clear c3); (try clear c6); (try clear d8); (try clear e5); obtain ⟨kq, d9, rfl, HA, HJ2, d6, a3, HB⟩ := hcut
  cases kq with
  | zero => exact absurd HA.out (by simp [spec_AskRead.j0])
  | succ kj2 =>
   have H := HA.out; clear HA
   simp only [spec_AskRead.j0] at H
   by_cases c8 : d9 = true
   ·
    subst c8
    rw [if_pos rfl] at H
    simp only [Option.some.injEq, Prod.mk.injEq] at H
    obtain ⟨rfl, rfl, rfl, rfl⟩ := H; obtain ⟨e6, e7, e8⟩ := cc3_ a3.out; obtain ⟨e9, f0, f1⟩ := cf3_ a3.out
    go_wp2
    refine bodyPost_ret (results_ct rfl _ _ a9 25 #[.slice none 0 0, .string (⟨#[]⟩ : ByteArray), .int .i64 0] (0, 0) _ rfl (by (repeat refine oneB ?_); refine blk_put (cs := #[.slice none 0 0, .string (⟨#[]⟩ : ByteArray), .int .i64 0]) ?_ 2 _ rfl; refine blk_put (cs := #[.slice none 0 0, .string (⟨#[]⟩ : ByteArray), .int .i64 0]) ?_ 1 _ rfl; refine blk_put (cs := #[.slice none 0 0, .string (⟨#[]⟩ : ByteArray), .int .i64 0]) ?_ 0 _ rfl; exact upB a3.out) Tryz.underlying25 rfl (by kernel_rfl)) rfl ?_
    exact ⟨_, by first | rfl | (simp [*, errW_none, errW_some] <;> rfl), by first | exact Kd.R_nil _ _ _ _ _ | exact Kd.N_nil _ _ _ _ _ | exact Kd.V_nil _ _ _ _ _ | exact Kd.Q_nil _ _ _ _ _ | exact Kd.S_nil _ _ _ _ _, by repeat (with_reducible first | exact HB.out | apply yae | apply yab | apply yad | refine yaf ?_ (Aside0.out ‹_›))⟩
   replace c8 := Bool.eq_false_iff.mpr c8
   subst c8
   rw [if_neg (show ¬ (false = true) by decide)] at H
   by_cases c10 : 1 < (b4.length : Int)
   rotate_left
   ·
    rw [if_neg c10] at H
    exact absurd H (by simp)
   rw [if_pos c10] at H
   have f3 : decide (1 < (b4.length : Int)) = true := decide_eq_true c10; have f4 : decide (1 < b4.length) = true := decide_eq_true (by omega); clear c10; obtain ⟨⟨b0, f5⟩, A11, H⟩ := bindA H; (try dsimp only at H)
   by_cases c12 : 2 < (b4.length : Int)
   rotate_left
   ·
    rw [if_neg c12] at H
    exact absurd H (by simp)
   rw [if_pos c12] at H
   have f6 : decide (2 < (b4.length : Int)) = true := decide_eq_true c12; have f7 : decide (2 < b4.length) = true := decide_eq_true (by omega); clear c12; obtain ⟨a5, A13, H⟩ := bindA H; (try dsimp only at H); have HC14 := yaa H; clear H; obtain ⟨s2, s3, o6⟩ := Kd.R_slice d6.out; subst o6; have p105 : 0 ≤ (1 : Int) := (by omega); have q105 : 1 < (b4.length : Int) := of_decide_eq_true (by assumption); obtain ⟨ad105, o7, d1⟩ := Kd.at_string (yam d6.out).2.2 1 p105 q105
   cases o7
   (try simp only [show (1 : Int).toNat = 1 from rfl, Nat.reduceMul, Nat.reduceEqDiff, Go.Addr.add, ↓reduceIte] at d1)
   have qi105 : (1 < b4.length) = True := eq_true (by omega)
   (try rw [show ((1 : Int)).toNat = 1 from rfl] at d1)
   replace p105 := eq_true p105; replace q105 := eq_true q105
   go_upto_region 6 with (first | ((with_reducible refine gc_ 38 rfl ?_); refine gl_ (some 24) rfl Tryz.func38 #[.string (rdOf ByteArray.empty b4 1)] ?_; (with_reducible refine (spec_l7Read.calls kj2 (rdOf ByteArray.empty b4 1) b0 f5 _ A11.out).mono ?_); rintro e w16 ⟨o8, rfl, ho0, hb⟩; refine ⟨_, rfl, ?_⟩; replace d6 := yaa (yah (upR d6.out) hb); have b9 := yaa (Kd.R_lower ho0 (yap (by repeat (with_reducible first | exact HB.out | apply yae | apply yab | apply yad | refine yaf ?_ (Aside0.out ‹_›))))); replace a3 := yaa (yak (upB a3.out) hb); replace HB := yaa (yal (by repeat (with_reducible first | exact HB.out | apply yae | apply yab | apply yad | refine yaf ?_ (Aside0.out ‹_›))) hb); (try clear hb ho0); have p110 : 0 ≤ (2 : Int) := (by omega); have q110 : 2 < (b4.length : Int) := of_decide_eq_true (by assumption); obtain ⟨ad110, o9, d2⟩ := Kd.at_string (yam d6.out).2.2 2 p110 q110; obtain rfl : ad105 = ad110 := (by injection o9); (try simp only [show (2 : Int).toNat = 2 from rfl, Nat.reduceMul, Nat.reduceEqDiff, Go.Addr.add, ↓reduceIte] at d2); have qi110 : (2 < b4.length) = True := eq_true (by omega); (try rw [show ((2 : Int)).toNat = 2 from rfl] at d2); replace p110 := eq_true p110; replace q110 := eq_true q110) | ((with_reducible refine gc_ 37 rfl ?_); refine gl_ (some 30) rfl Tryz.func37 #[.string (rdOf ByteArray.empty b4 2), .int .u8 63] ?_; (with_reducible refine (spec_l7Cut.calls kj2 (rdOf ByteArray.empty b4 2) 63 a5 _ A13.out).mono ?_); rintro e w17 ⟨p0, rfl, ho0, hb⟩; refine ⟨_, rfl, ?_⟩; replace b9 := yaa (yah (upR b9.out) hb); have c9 := yaa (Kd.R_lower (Kd.R_new' ho0 (Kd.R_lt (upR d6.out))) (yap (by repeat (with_reducible first | exact HB.out | apply yae | apply yab | apply yad | refine yaf ?_ (Aside0.out ‹_›))))); replace d6 := yaa (Kd.R_elder' (upR d6.out) (Kd.R_base ho0) hb); replace a3 := yaa (yak (upB a3.out) hb); replace HB := yaa (yal (by repeat (with_reducible first | exact HB.out | apply yae | apply yab | apply yad | refine yaf ?_ (Aside0.out ‹_›))) hb); (try clear hb ho0)))
   (try simp only [Act.put, List.setIfInBounds_toArray, List.set_cons_zero, List.set_cons_succ])
   go_cut [44] (fun v44 wc => ∃ (kq : Nat) (d3 : Bool), v44 = .bool d3 ∧ yan (spec_AskRead.j1 kq a0 b0 a5 d3 = some (r1, r2, r3, r4)) ∧ yan (kq ≤ kj2) ∧ yan (Kd.R k65 65 wc w.heap.size (fun _ => True) o8 b0) ∧ yan (Kd.R Kd.string 9 wc w.heap.size (fun _ => True) p0 a5) ∧ yan (wc.heap[a9]? = some (.cells #[(.slice none 0 0), .string (⟨#[]⟩ : ByteArray), .int .i64 0] 25 (0, 0))) ∧ yan (Below w.heap.size w wc))
   case first =>
    have H := HC14.out; clear HC14
    by_cases c18 : f5 = true
    rotate_left
    ·
     replace c18 := Bool.eq_false_iff.mpr c18
     subst c18
     rw [if_neg (show ¬ (false = true) by decide)] at H
     have H' := yaa H; clear H
     go_wp2
     go_meet
     case rel => exact ⟨_, (true), (by first | rfl | (simp; done) | (simp [*]; done)), H', ⟨by have := HJ2.out; first | omega | exact Nat.le_refl _⟩, ⟨by first | exact b9.out | exact upR b9.out⟩, ⟨by (with_reducible repeat (first | apply Kd.R_alloc | apply Kd.R_drewN | apply yao)); exact Kd.R_mono c9.out (fun _ hk => trivial)⟩, ⟨by exact upB a3.out⟩, ⟨by repeat (with_reducible first | exact HB.out | apply yae | apply yab | apply yad | refine yaf ?_ (Aside0.out ‹_›))⟩⟩
    subst c18
    rw [if_pos rfl] at H
    by_cases c19 : (a5.length : Int) = 2
    ·
     rw [if_pos c19] at H
     have d0 := beq_iff_eq.mpr c19; have e4 := bne_eq_false_iff_eq.mpr c19; clear c19
     (first | rw [d0] | (simp only [i64_w, i32_w]; rw [d0]) | skip)
     by_cases c20 : 1 < (a5.length : Int)
     ·
      rw [if_pos c20] at H
      have f8 : decide (1 < (a5.length : Int)) = true := decide_eq_true c20; have f9 : decide (1 < a5.length) = true := decide_eq_true (by omega); clear c20; have H' := yaa H; clear H; obtain ⟨s4, s5, p3⟩ := Kd.R_slice c9.out; subst p3; have p114 : 0 ≤ (1 : Int) := (by omega); have q114 : 1 < (a5.length : Int) := of_decide_eq_true (by assumption); obtain ⟨ad114, p4, d4⟩ := Kd.at_string (yam c9.out).2.2 1 p114 q114
      cases p4
      (try simp only [show (1 : Int).toNat = 1 from rfl, Nat.reduceMul, Nat.reduceEqDiff, Go.Addr.add, ↓reduceIte] at d4)
      have qi114 : (1 < a5.length) = True := eq_true (by omega)
      (try rw [show ((1 : Int)).toNat = 1 from rfl] at d4)
      replace p114 := eq_true p114; replace q114 := eq_true q114
      go_wp2
      go_meet
      case rel => exact ⟨_, (decide (((rdOf ByteArray.empty a5 1).size : Int) < 3)), (by first | rfl | (simp; done) | (simp [*]; done)), H', ⟨by have := HJ2.out; first | omega | exact Nat.le_refl _⟩, ⟨by first | exact b9.out | exact upR b9.out⟩, ⟨by (with_reducible repeat (first | apply Kd.R_alloc | apply Kd.R_drewN | apply yao)); exact Kd.R_mono c9.out (fun _ hk => trivial)⟩, ⟨by exact upB a3.out⟩, ⟨by repeat (with_reducible first | exact HB.out | apply yae | apply yab | apply yad | refine yaf ?_ (Aside0.out ‹_›))⟩⟩
     rw [if_neg c20] at H
     exact absurd H (by simp)
    rw [if_neg c19] at H
    have d0 := beq_eq_false_iff_ne.mpr c19; have e4 := bne_iff_ne.mpr c19
    (first | rw [d0] | (simp only [i64_w, i32_w]; rw [d0]) | skip)
    have H' := yaa H; clear H; obtain ⟨s6, s7, p5⟩ := Kd.R_slice c9.out; subst p5
    go_wp2
    go_meet
    case rel => exact ⟨_, (true), (by first | rfl | (simp; done) | (simp [*]; done)), H', ⟨by have := HJ2.out; first | omega | exact Nat.le_refl _⟩, ⟨by first | exact b9.out | exact upR b9.out⟩, ⟨by (with_reducible repeat (first | apply Kd.R_alloc | apply Kd.R_drewN | apply yao)); exact Kd.R_mono c9.out (fun _ hk => trivial)⟩, ⟨by exact upB a3.out⟩, ⟨by repeat (with_reducible first | exact HB.out | apply yae | apply yab | apply yad | refine yaf ?_ (Aside0.out ‹_›))⟩⟩
   case rest =>
    clear HC14; (try clear c1); (try clear p1); (try clear q1); (try clear hx1); (try clear qi1); (try clear c2); (try clear p2); (try clear c3); (try clear c6); (try clear d8); (try clear e5); (try clear c8); (try clear c10); (try clear f3); (try clear f4); (try clear p10); (try clear q10); (try clear hx10); (try clear qi10); (try clear p11); (try clear q11); (try clear hx11); (try clear qi11); (try clear c12); (try clear f6); (try clear f7); (try clear c14); (try clear c18); (try clear c19); (try clear d0); (try clear e4); (try clear c20); (try clear f8); (try clear f9); (try clear e6); (try clear e7); (try clear e8); (try clear e9); (try clear f0); (try clear f1); (try clear d1); (try clear d2); (try clear d4); (try clear p105); (try clear p110); (try clear p114); (try clear p2); (try clear q105); (try clear q110); (try clear q114); obtain ⟨kq, d3, rfl, HA, HJ13, a8, a4, a3, HB⟩ := hcut
    cases kq with
    | zero => exact absurd HA.out (by simp [spec_AskRead.j1])
    | succ kj13 =>
     have H := HA.out; clear HA
     simp only [spec_AskRead.j1] at H
     by_cases c23 : d3 = true
     ·
      subst c23
      rw [if_pos rfl] at H
      simp only [Option.some.injEq, Prod.mk.injEq] at H
      obtain ⟨rfl, rfl, rfl, rfl⟩ := H; obtain ⟨h7, h8, h9⟩ := cc3_ a3.out; obtain ⟨i0, i1, i2⟩ := cf3_ a3.out
      go_wp2
      refine bodyPost_ret (results_ct rfl _ _ a9 25 #[.slice none 0 0, .string (⟨#[]⟩ : ByteArray), .int .i64 0] (0, 0) _ rfl (by (repeat refine oneB ?_); refine blk_put (cs := #[.slice none 0 0, .string (⟨#[]⟩ : ByteArray), .int .i64 0]) ?_ 2 _ rfl; refine blk_put (cs := #[.slice none 0 0, .string (⟨#[]⟩ : ByteArray), .int .i64 0]) ?_ 1 _ rfl; refine blk_put (cs := #[.slice none 0 0, .string (⟨#[]⟩ : ByteArray), .int .i64 0]) ?_ 0 _ rfl; exact upB a3.out) Tryz.underlying25 rfl (by kernel_rfl)) rfl ?_
      exact ⟨_, by first | rfl | (simp [*, errW_none, errW_some] <;> rfl), by first | exact Kd.R_nil _ _ _ _ _ | exact Kd.N_nil _ _ _ _ _ | exact Kd.V_nil _ _ _ _ _ | exact Kd.Q_nil _ _ _ _ _ | exact Kd.S_nil _ _ _ _ _, by repeat (with_reducible first | exact HB.out | apply yae | apply yab | apply yad | refine yaf ?_ (Aside0.out ‹_›))⟩
     replace c23 := Bool.eq_false_iff.mpr c23
     subst c23
     rw [if_neg (show ¬ (false = true) by decide)] at H
     by_cases c25 : 0 < (a5.length : Int)
     rotate_left
     ·
      rw [if_neg c25] at H
      exact absurd H (by simp)
     rw [if_pos c25] at H
     have p7 : decide (0 < (a5.length : Int)) = true := decide_eq_true c25; have p8 : decide (0 < a5.length) = true := decide_eq_true (by omega); clear c25
     by_cases c26 : 1 < (a5.length : Int)
     rotate_left
     ·
      rw [if_neg c26] at H
      exact absurd H (by simp)
     rw [if_pos c26] at H
     have p9 : decide (1 < (a5.length : Int)) = true := decide_eq_true c26; have q0 : decide (1 < a5.length) = true := decide_eq_true (by omega); clear c26
     by_cases c27 : 2 ≤ ((rdOf ByteArray.empty a5 1).size : Int)
     rotate_left
     ·
      rw [if_neg c27] at H
      exact absurd H (by simp)
     rw [if_pos c27] at H
     have q2 := eq_true c27; replace c27 := decide_eq_true c27; obtain ⟨b3, A28, H⟩ := bindA H; (try dsimp only at H); obtain ⟨e3, A29, H⟩ := bindA H; (try dsimp only at H)
     by_cases c30 : e3.toList = a0.toList
     rotate_left
     ·
      rw [if_neg c30] at H
      have g0 := beq_eq_false_iff_ne.mpr c30; have g1 := bne_iff_ne.mpr c30
      simp only [Option.some.injEq, Prod.mk.injEq] at H
      obtain ⟨rfl, rfl, rfl, rfl⟩ := H
      try go_wp2
      replace a8 := yaa (yao a8.out); replace a4 := yaa (yao a4.out); replace a3 := yaa (blk_drew a3.out); replace HB := yaa (yad HB.out); obtain ⟨u2, h3, h4⟩ := Kd.R_slice a4.out
      (first | subst h4 | (injection h4 with f1_ f2_ f3_; have f4_ := f1_.symm; have f5_ := f3_.symm; clear f1_ f2_ f3_; subst f4_; subst f5_))
      have p115 : 0 ≤ (0 : Int) := (by omega); have q115 : 0 < (a5.length : Int) := of_decide_eq_true (by assumption); obtain ⟨ad115, e1, b1⟩ := Kd.at_string (yam a4.out).2.2 0 p115 q115
      cases e1
      have qi115 : (0 < a5.length) = True := eq_true (by omega)
      (try rw [show ((0 : Int)).toNat = 0 from rfl] at b1)
      (try rw [Addr.add_zero'] at b1)
      replace p115 := eq_true p115; replace q115 := eq_true q115; have p116 : 0 ≤ (1 : Int) := (by omega); have q116 : 1 < (a5.length : Int) := of_decide_eq_true (by assumption); obtain ⟨ad116, e2, b2⟩ := Kd.at_string (yam a4.out).2.2 1 p116 q116; obtain rfl : ad115 = ad116 := (by injection e2)
      (try simp only [show (1 : Int).toNat = 1 from rfl, Nat.reduceMul, Nat.reduceEqDiff, Go.Addr.add, ↓reduceIte] at b2)
      have qi116 : (1 < a5.length) = True := eq_true (by omega)
      (try rw [show ((1 : Int)).toNat = 1 from rfl] at b2)
      replace p116 := eq_true p116; replace q116 := eq_true q116
      obtain ⟨c7, c4, h5⟩ := Kd.R_slice a8.out
      (first | subst h5 | (injection h5 with f1_ f2_ f3_; have f4_ := f1_.symm; have f5_ := f3_.symm; clear f1_ f2_ f3_; subst f4_; subst f5_))
      refine start_ (n := 12) (S := fun w' => w'.cell? ad115 = some (.string (rdOf ByteArray.empty a5 0)) ∧ w'.cell? ⟨ad115.block, ad115.off + 1, none⟩ = some (.string (rdOf ByteArray.empty a5 1))) (ds := []) q14_0 (by kernel_rfl) rfl rfl ⟨b1, b2⟩ (fun hHeld => ?_); refine with_tabW spec_AskRead.tab8 spec_AskRead.bits8 (fun HT_ HW_ => ?_)
      generalize wc.drew = w59 at a8 a4 a3 HB b1 b2 hHeld ⊢
      refine pz_ 0 46 q14_1 HT_ (by kernel_rfl) ?_
      refine pz_ 1 47 q14_2 HT_ (by kernel_rfl) ?_
      refine pz_ 2 48 q14_3 HT_ (by kernel_rfl) ?_
      refine pz_ 4 50 q14_4 HT_ (by kernel_rfl) ?_
      refine pz_ 5 51 q14_5 HT_ (by kernel_rfl) ?_
      refine tz_ 3 49 q14_6 HT_ HW_ (by kernel_rfl) hHeld ?_
      refine tz_ 6 52 q14_7 HT_ HW_ (by kernel_rfl) hHeld ?_
      refine pz_ 7 53 q14_8 HT_ (by kernel_rfl) ?_
      refine join_ (σ := Nat) 1 q14_9 (fun s_ => [(54, .int .i64 b3), (8, .pointer (some ⟨s_, 0, none⟩)), (55, .agg #[.slice c7 b0.length c4, .string (rdOf ByteArray.empty a5 0), .int .i64 b3])]) (fun s_ w' => (w'.cell? ad115 = some (.string (rdOf ByteArray.empty a5 0)) ∧ w'.cell? ⟨ad115.block, ad115.off + 1, none⟩ = some (.string (rdOf ByteArray.empty a5 1))) ∧ (Kd.R k65 65 w' w.heap.size (fun _ => True) (.slice c7 b0.length c4) b0) ∧ (Kd.R Kd.string 9 w' w.heap.size (fun _ => True) (.slice (some ad115) a5.length h3) a5) ∧ (w'.heap[a9]? = some (.cells #[.slice none 0 0, .string (⟨#[]⟩ : ByteArray), .int .i64 0] 25 (0, 0))) ∧ (w'.heap[s_]? = some (.cells #[.slice none 0 0, .string (⟨#[]⟩ : ByteArray), .int .i64 0] 25 (0, 0))) ∧ (w.heap.size ≤ s_) ∧ (w.heap.size ≤ s_) ∧ (a9 ≠ s_) ∧ (s_ ≠ a9) ∧ (Below w.heap.size w w')) ?_ ?_
      rotate_left
      ·
       intro hCont
       refine two_ (i := 8) (j := 10) (Ni := some 54) (Nj := some 8) q14_10 q14_11 rfl rfl rfl rfl (two_of HT_.out (by kernel_rfl)) (by decide) (by decide) (fun K hK => ?_) (fun K hK => ?_)
       ·
        skip
        refine goes_ Tryz.func39 (by kernel_rfl) rfl #[.string ((rdOf ByteArray.empty a5 1).extract 2 (rdOf ByteArray.empty a5 1).size)] (by rfl) rfl rfl (by (try simp only [List.map_toArray, List.map_cons, List.map_nil]); first | done | rfl | (simp only [List.length_drop, List.length_take]; rfl)) ?_
        with_reducible refine (spec_l7Num.calls kj13 ((rdOf ByteArray.empty a5 1).extract 2 (rdOf ByteArray.empty a5 1).size) b3 _ A28.out).mono ?_
        rintro e w61 ⟨rfl, hb⟩; have HS0_ := (hb.cell (World.block_lt_of_cell? _ _ (hHeld.1))).trans (hHeld.1); have HS1_ := (hb.cell (World.block_lt_of_cell? _ _ (hHeld.2))).trans (hHeld.2); refine ⟨_, rfl, ?_⟩; have n0_ := yaa (yah (upR a8.out) hb); have n1_ := yaa (yah (upR a4.out) hb); have n2_ := yaa (yak (upB a3.out) hb)
        have n3_ := yaa (yal (by repeat (with_reducible first | exact HB.out | apply yae | apply yab | apply yad | refine yaf ?_ (Aside0.out ‹_›))) hb)
        clear a8; clear a4; clear a3; clear HB; have a8 := n0_; have a4 := n1_; have a3 := n2_; have HB := n3_; clear n0_ n1_ n2_ n3_; (try clear hb); (try clear hb2); (try clear hk); (try clear hi)
        refine hK.out _ _ ⟨HS0_, HS1_⟩ (fun hHeld => ?_)
        clear hK K
        refine norm_ (a' := ?_) ?_ ?_
        rotate_left
        ·
         show Act.put _ (some 54) _ = _
         simp only [Act.put, List.setIfInBounds_toArray, List.set_cons_zero, List.set_cons_succ, i64_w, i32_w]
         rfl
        refine pz_ 9 55 q14_12 HT_ (by kernel_rfl) ?_
        refine one_ (i := 10) (N := some 8) q14_9 rfl rfl (one_of HT_.out (by kernel_rfl)) (by decide) (fun K hK => ?_)
        refine box_step ?hg (N := 8) ?hd (cs := #[.slice none 0 0, .string (⟨#[]⟩ : ByteArray), .int .i64 0]) (t := 25) ?hr ?_; (case hd => rfl); (case hg => rfl); (case hr => first | (go_simp; done) | (go_simp; rfl))
        intro a2 hg w63 hbox hb; have HS0_ := (hb.cell (World.block_lt_of_cell? _ _ (hHeld.1))).trans (hHeld.1); have HS1_ := (hb.cell (World.block_lt_of_cell? _ _ (hHeld.2))).trans (hHeld.2); have n0_ := yaa (yah (upR a8.out) hb); have n1_ := yaa (yah (upR a4.out) hb); have n2_ := yaa (yak (upB a3.out) hb)
        have n3_ := yaa (yal (by repeat (with_reducible first | exact HB.out | apply yae | apply yab | apply yad | refine yaf ?_ (Aside0.out ‹_›))) hb)
        have n4_ := yaa (hbox)
        have n5_ := yaa ((by rw [hg]; exact (yap (by repeat (with_reducible first | exact HB.out | apply yae | apply yab | apply yad | refine yaf ?_ (Aside0.out ‹_›)))) : w.heap.size ≤ a2))
        have n6_ := yaa ((by rw [hg]; exact (yap (by repeat (with_reducible first | exact HB.out | apply yae | apply yab | apply yad | refine yaf ?_ (Aside0.out ‹_›)))) : w.heap.size ≤ a2))
        have n7_ := yaa ((by rw [hg]; exact Nat.ne_of_lt (blk_lt (upB a3.out)) : a9 ≠ a2)); have n8_ := yaa ((by rw [hg]; exact Nat.ne_of_gt (blk_lt (upB a3.out)) : a2 ≠ a9)); clear a8; clear a4; clear a3; clear HB; have a8 := n0_; have a4 := n1_; have a3 := n2_; have HB := n3_; have a1 := n4_; have b5 := n5_; have b6 := n6_; have a6 := n7_; have a7 := n8_; clear n0_ n1_ n2_ n3_ n4_ n5_ n6_ n7_ n8_; clear hb hbox hg
        refine hK.out _ _ ⟨HS0_, HS1_⟩ (fun hHeld => ?_)
        clear hK K
        refine norm_ (a' := ?_) ?_ ?_
        rotate_left
        ·
         show Act.put _ (some 8) _ = _
         simp only [Act.put, List.setIfInBounds_toArray, List.set_cons_zero, List.set_cons_succ, i64_w, i32_w]
         rfl
        exact norm_ (by simp only [putAll, Act.put, List.setIfInBounds_toArray, List.set_cons_zero, List.set_cons_succ]) (hCont (a2) _ ⟨hHeld, (upR a8.out), (upR a4.out), (upB a3.out), (upB a1.out), b5.out, b6.out, a6.out, a7.out, (by repeat (with_reducible first | exact HB.out | apply yae | apply yab | apply yad | refine yaf ?_ (Aside0.out ‹_›)))⟩)
       ·
        skip
        refine box_step ?hg (N := 8) ?hd (cs := #[.slice none 0 0, .string (⟨#[]⟩ : ByteArray), .int .i64 0]) (t := 25) ?hr ?_; (case hd => rfl); (case hg => rfl); (case hr => first | (go_simp; done) | (go_simp; rfl))
        intro a2 hg w61 hbox hb; have HS0_ := (hb.cell (World.block_lt_of_cell? _ _ (hHeld.1))).trans (hHeld.1); have HS1_ := (hb.cell (World.block_lt_of_cell? _ _ (hHeld.2))).trans (hHeld.2); have n0_ := yaa (yah (upR a8.out) hb); have n1_ := yaa (yah (upR a4.out) hb); have n2_ := yaa (yak (upB a3.out) hb)
        have n3_ := yaa (yal (by repeat (with_reducible first | exact HB.out | apply yae | apply yab | apply yad | refine yaf ?_ (Aside0.out ‹_›))) hb)
        have n4_ := yaa (hbox)
        have n5_ := yaa ((by rw [hg]; exact (yap (by repeat (with_reducible first | exact HB.out | apply yae | apply yab | apply yad | refine yaf ?_ (Aside0.out ‹_›)))) : w.heap.size ≤ a2))
        have n6_ := yaa ((by rw [hg]; exact (yap (by repeat (with_reducible first | exact HB.out | apply yae | apply yab | apply yad | refine yaf ?_ (Aside0.out ‹_›)))) : w.heap.size ≤ a2))
        have n7_ := yaa ((by rw [hg]; exact Nat.ne_of_lt (blk_lt (upB a3.out)) : a9 ≠ a2)); have n8_ := yaa ((by rw [hg]; exact Nat.ne_of_gt (blk_lt (upB a3.out)) : a2 ≠ a9)); clear a8; clear a4; clear a3; clear HB; have a8 := n0_; have a4 := n1_; have a3 := n2_; have HB := n3_; have a1 := n4_; have b5 := n5_; have b6 := n6_; have a6 := n7_; have a7 := n8_; clear n0_ n1_ n2_ n3_ n4_ n5_ n6_ n7_ n8_; clear hb hbox hg
        refine hK.out _ _ ⟨HS0_, HS1_⟩ (fun hHeld => ?_)
        clear hK K
        refine norm_ (a' := ?_) ?_ ?_
        rotate_left
        ·
         show Act.put _ (some 8) _ = _
         simp only [Act.put, List.setIfInBounds_toArray, List.set_cons_zero, List.set_cons_succ, i64_w, i32_w]
         rfl
        refine one_ (i := 8) (N := some 54) q14_13 rfl rfl (one_of HT_.out (by kernel_rfl)) (by decide) (fun K hK => ?_)
        refine goes_ Tryz.func39 (by kernel_rfl) rfl #[.string ((rdOf ByteArray.empty a5 1).extract 2 (rdOf ByteArray.empty a5 1).size)] (by rfl) rfl rfl (by (try simp only [List.map_toArray, List.map_cons, List.map_nil]); first | done | rfl | (simp only [List.length_drop, List.length_take]; rfl)) ?_
        with_reducible refine (spec_l7Num.calls kj13 ((rdOf ByteArray.empty a5 1).extract 2 (rdOf ByteArray.empty a5 1).size) b3 _ A28.out).mono ?_
        rintro e w62 ⟨rfl, hb⟩; have HS0_ := (hb.cell (World.block_lt_of_cell? _ _ (hHeld.1))).trans (hHeld.1); have HS1_ := (hb.cell (World.block_lt_of_cell? _ _ (hHeld.2))).trans (hHeld.2); refine ⟨_, rfl, ?_⟩; have n0_ := yaa (yah (upR a8.out) hb); have n1_ := yaa (yah (upR a4.out) hb); have n2_ := yaa (yak (upB a3.out) hb); have n3_ := yaa (yak (upB a1.out) hb)
        have n4_ := yaa (yal (by repeat (with_reducible first | exact HB.out | apply yae | apply yab | apply yad | refine yaf ?_ (Aside0.out ‹_›))) hb)
        clear a8; clear a4; clear a3; clear a1; clear HB; have a8 := n0_; have a4 := n1_; have a3 := n2_; have a1 := n3_; have HB := n4_; clear n0_ n1_ n2_ n3_ n4_; (try clear hb); (try clear hb2); (try clear hk); (try clear hi); obtain ⟨u3, u4, h6⟩ := Kd.R_slice a8.out
        (first | subst h6 | (injection h6 with f1_ f2_ f3_; have f4_ := f1_.symm; have f5_ := f3_.symm; clear f1_ f2_ f3_; subst f4_; subst f5_))
        refine hK.out _ _ ⟨HS0_, HS1_⟩ (fun hHeld => ?_)
        clear hK K
        refine norm_ (a' := ?_) ?_ ?_
        rotate_left
        ·
         show Act.put _ (some 54) _ = _
         simp only [Act.put, List.setIfInBounds_toArray, List.set_cons_zero, List.set_cons_succ, i64_w, i32_w]
         rfl
        refine pz_ 9 55 q14_9 HT_ (by kernel_rfl) ?_
        exact norm_ (by simp only [putAll, Act.put, List.setIfInBounds_toArray, List.set_cons_zero, List.set_cons_succ]) (hCont (a2) _ ⟨hHeld, (upR a8.out), (upR a4.out), (upB a3.out), (upB a1.out), b5.out, b6.out, a6.out, a7.out, (by repeat (with_reducible first | exact HB.out | apply yae | apply yab | apply yad | refine yaf ?_ (Aside0.out ‹_›)))⟩)
      rintro a2 w64 ⟨hS_, h0_, h1_, h2_, h3_, h4_, h5_, h6_, h7_, h8_⟩; have n0_ : yan (Kd.R k65 65 w64 w.heap.size (fun _ => True) (.slice c7 b0.length c4) b0) := ⟨h0_⟩; have n1_ : yan (Kd.R Kd.string 9 w64 w.heap.size (fun _ => True) (.slice (some ad115) a5.length h3) a5) := ⟨h1_⟩; have n2_ : yan (w64.heap[a9]? = some (.cells #[.slice none 0 0, .string (⟨#[]⟩ : ByteArray), .int .i64 0] 25 (0, 0))) := ⟨h2_⟩; have n3_ : yan (w64.heap[a2]? = some (.cells #[.slice none 0 0, .string (⟨#[]⟩ : ByteArray), .int .i64 0] 25 (0, 0))) := ⟨h3_⟩; have n4_ : yan (w.heap.size ≤ a2) := ⟨h4_⟩; have n5_ : yan (w.heap.size ≤ a2) := ⟨h5_⟩; have n6_ : yan (a9 ≠ a2) := ⟨h6_⟩; have n7_ : yan (a2 ≠ a9) := ⟨h7_⟩; have n8_ : yan (Below w.heap.size w w64) := ⟨h8_⟩; clear a8; clear a4; clear a3; clear HB; clear h0_ h1_ h2_ h3_ h4_ h5_ h6_ h7_ h8_; have a8 := n0_; have a4 := n1_; have a3 := n2_; have a1 := n3_; have b5 := n4_; have b6 := n5_; have a6 := n6_; have a7 := n7_; have HB := n8_; clear n0_ n1_ n2_ n3_ n4_ n5_ n6_ n7_ n8_; have hHeld : w64.cell? ad115 = some (.string (rdOf ByteArray.empty a5 0)) ∧ w64.cell? ⟨ad115.block, ad115.off + 1, none⟩ = some (.string (rdOf ByteArray.empty a5 1)) := hS_
      refine norm_ (a' := ?_) ?_ ?_
      rotate_left
      ·
       simp only [putAll, Act.put, List.setIfInBounds_toArray, List.set_cons_zero, List.set_cons_succ]
       rfl
      refine one_ (i := 11) (N := none) q14_14 rfl rfl (one_of HT_.out (by kernel_rfl)) (by decide) (fun K hK => ?_)
      have u5 : w64.cell? ⟨a2, 0, none⟩ = some (.slice none 0 0) := (blk_cell a1.out 0).trans rfl; have r7 := blk_frozen a1.out 0; have m7 := a6.out; have m8 := a7.out; have u6 : w64.cell? ⟨a2, 1, none⟩ = some (.string (⟨#[]⟩ : ByteArray)) := (blk_cell a1.out 1).trans rfl; have r8 := blk_frozen a1.out 1; have m9 := a6.out; have n0 := a7.out; have u7 : w64.cell? ⟨a2, 2, none⟩ = some (.int .i64 0) := (blk_cell a1.out 2).trans rfl; have r9 := blk_frozen a1.out 2; have n1 := a6.out; have n2 := a7.out
      refine skip_ (by rfl) rfl (st3_ (b := a2) (A := c7) (n := b0.length) (c := c4) (p := (rdOf ByteArray.empty a5 0)) (x := b3) rfl rfl a1.out) ?_
      have hne_ := yac (yag a4.out a1.out (by decide))
      refine hK.out _ _ ⟨cell3_ hne_ hHeld.1, cell3_ hne_ hHeld.2⟩ (fun hHeld => ?_)
      clear hK K
      refine done_ (done_of HT_.out (by kernel_rfl)) ?_
      have s0 := a7.out; have s1 := a6.out; obtain ⟨n3, n4, n5⟩ := cc3_ a1.out; obtain ⟨n6, n7, n8⟩ := cf3_ a1.out
      try go_wp2_with (first | ((with_reducible refine gd_ 56 rfl ?_); refine Kd.event_run rfl (ld3_ (b := a2) (A := c7) (n := b0.length) (c := c4) (p := (rdOf ByteArray.empty a5 0)) (x := b3) rfl (by (repeat refine oneB ?_); refine blk_put (cs := #[.slice c7 b0.length c4, .string (rdOf ByteArray.empty a5 0), .int .i64 0]) ?_ 2 _ rfl; refine blk_put (cs := #[.slice c7 b0.length c4, .string (⟨#[]⟩ : ByteArray), .int .i64 0]) ?_ 1 _ rfl; refine blk_put (cs := #[.slice none 0 0, .string (⟨#[]⟩ : ByteArray), .int .i64 0]) ?_ 0 _ rfl; exact upB a1.out)) ?_) | ((with_reducible refine gc_ 22 rfl ?_); refine gl_ (some 57) rfl Tryz.func22 #[.agg #[.slice c7 b0.length c4, .string (rdOf ByteArray.empty a5 0), .int .i64 b3]] ?_; (with_reducible refine (spec_AskText.calls kj13 _ _ b0 (rdOf ByteArray.empty a5 0) b3 e3 _ ?side1 ?side2 A29.out).mono ?_); (case side1 => refine (yam (e := 65) (base := w.heap.size) (ok := fun k_ => True) (n := b0.length) (c := c4) ?_).2.2; exact (by (with_reducible repeat (first | apply Kd.R_alloc | apply Kd.R_drewN | apply yao)); exact (Kd.R_mono (yaj (p := ⟨a2, 2, none⟩) (yaj (p := ⟨a2, 1, none⟩) (yaj (p := ⟨a2, 0, none⟩) (Kd.R_types a8.out a1.out (by decide)) (fun _ hk => hk.2) (.slice c7 b0.length c4)) (fun _ hk => hk.2) (.string (rdOf ByteArray.empty a5 0))) (fun _ hk => hk.2) (.int .i64 b3)) (fun _ h_ => h_.1)))); (case side2 => exact (yam a8.out).2.1); rintro e w70 ⟨rfl, hb⟩; refine ⟨_, rfl, ?_⟩; replace a8 := yaa (yah (by (with_reducible repeat (first | apply Kd.R_alloc | apply Kd.R_drewN | apply yao)); exact (Kd.R_mono (yaj (p := ⟨a2, 2, none⟩) (yaj (p := ⟨a2, 1, none⟩) (yaj (p := ⟨a2, 0, none⟩) (Kd.R_types a8.out a1.out (by decide)) (fun _ hk => hk.2) (.slice c7 b0.length c4)) (fun _ hk => hk.2) (.string (rdOf ByteArray.empty a5 0))) (fun _ hk => hk.2) (.int .i64 b3)) (fun _ h_ => h_.1))) hb); replace a4 := yaa (yah (by (with_reducible repeat (first | apply Kd.R_alloc | apply Kd.R_drewN | apply yao)); exact (Kd.R_mono (yaj (p := ⟨a2, 2, none⟩) (yaj (p := ⟨a2, 1, none⟩) (yaj (p := ⟨a2, 0, none⟩) (Kd.R_types a4.out a1.out (by decide)) (fun _ hk => hk.2) (.slice c7 b0.length c4)) (fun _ hk => hk.2) (.string (rdOf ByteArray.empty a5 0))) (fun _ hk => hk.2) (.int .i64 b3)) (fun _ h_ => h_.1))) hb); replace a3 := yaa (yak (g := a9) (o := .cells #[.slice none 0 0, .string (⟨#[]⟩ : ByteArray), .int .i64 0] 25 (0, 0)) (by repeat (with_reducible first | exact a3.out | refine oneB ?_ | refine blk_far ?_ a6.out _)) hb); replace a1 := yaa (yak (g := a2) (o := .cells #[.slice c7 b0.length c4, .string (rdOf ByteArray.empty a5 0), .int .i64 b3] 25 (0, 0)) (by (repeat refine oneB ?_); refine blk_put (cs := #[.slice c7 b0.length c4, .string (rdOf ByteArray.empty a5 0), .int .i64 0]) ?_ 2 _ rfl; refine blk_put (cs := #[.slice c7 b0.length c4, .string (⟨#[]⟩ : ByteArray), .int .i64 0]) ?_ 1 _ rfl; refine blk_put (cs := #[.slice none 0 0, .string (⟨#[]⟩ : ByteArray), .int .i64 0]) ?_ 0 _ rfl; exact upB a1.out) hb); replace HB := yaa (yal (by repeat (with_reducible first | exact HB.out | apply yae | apply yab | apply yad | refine yaf ?_ (Aside0.out ‹_›))) hb); (try clear hb); obtain ⟨n9, o0, o1⟩ := cc3_ a3.out; obtain ⟨o2, o3⟩ := cf2_ a3.out; have o4 := blk_frozen a3.out 2))
      refine bodyPost_ret (results_ct rfl _ _ a9 25 #[.slice none 0 0, .string (⟨#[]⟩ : ByteArray), .int .i64 0] (0, 0) _ rfl (by (repeat refine oneB ?_); refine blk_put (cs := #[.slice none 0 0, .string (⟨#[]⟩ : ByteArray), .int .i64 0]) ?_ 2 _ rfl; refine blk_put (cs := #[.slice none 0 0, .string (⟨#[]⟩ : ByteArray), .int .i64 0]) ?_ 1 _ rfl; refine blk_put (cs := #[.slice none 0 0, .string (⟨#[]⟩ : ByteArray), .int .i64 0]) ?_ 0 _ rfl; exact upB a3.out) Tryz.underlying25 rfl (by kernel_rfl)) rfl ?_
      exact ⟨_, by first | rfl | (simp [*, errW_none, errW_some] <;> rfl), by first | exact Kd.R_nil _ _ _ _ _ | exact Kd.N_nil _ _ _ _ _ | exact Kd.V_nil _ _ _ _ _ | exact Kd.Q_nil _ _ _ _ _ | exact Kd.S_nil _ _ _ _ _, by repeat (with_reducible first | exact HB.out | apply yae | apply yab | apply yad | refine yaf ?_ (Aside0.out ‹_›))⟩
     rw [if_pos c30] at H
     have g0 := beq_iff_eq.mpr c30; have g1 := bne_eq_false_iff_eq.mpr c30; clear c30
     by_cases c31 : a0.toList = ([] : List UInt8)
     ·
      rw [if_pos c31] at H
      have g2 := beq_iff_eq.mpr c31; have g3 := bne_eq_false_iff_eq.mpr c31; clear c31
      simp only [Option.some.injEq, Prod.mk.injEq] at H
      obtain ⟨rfl, rfl, rfl, rfl⟩ := H
      try go_wp2
      replace a8 := yaa (yao a8.out); replace a4 := yaa (yao a4.out); replace a3 := yaa (blk_drew a3.out); replace HB := yaa (yad HB.out); obtain ⟨t0, g4, g5⟩ := Kd.R_slice a4.out
      (first | subst g5 | (injection g5 with f1_ f2_ f3_; have f4_ := f1_.symm; have f5_ := f3_.symm; clear f1_ f2_ f3_; subst f4_; subst f5_))
      have p115 : 0 ≤ (0 : Int) := (by omega); have q115 : 0 < (a5.length : Int) := of_decide_eq_true (by assumption); obtain ⟨ad115, e1, b1⟩ := Kd.at_string (yam a4.out).2.2 0 p115 q115
      cases e1
      have qi115 : (0 < a5.length) = True := eq_true (by omega)
      (try rw [show ((0 : Int)).toNat = 0 from rfl] at b1)
      (try rw [Addr.add_zero'] at b1)
      replace p115 := eq_true p115; replace q115 := eq_true q115; have p116 : 0 ≤ (1 : Int) := (by omega); have q116 : 1 < (a5.length : Int) := of_decide_eq_true (by assumption); obtain ⟨ad116, e2, b2⟩ := Kd.at_string (yam a4.out).2.2 1 p116 q116; obtain rfl : ad115 = ad116 := (by injection e2)
      (try simp only [show (1 : Int).toNat = 1 from rfl, Nat.reduceMul, Nat.reduceEqDiff, Go.Addr.add, ↓reduceIte] at b2)
      have qi116 : (1 < a5.length) = True := eq_true (by omega)
      (try rw [show ((1 : Int)).toNat = 1 from rfl] at b2)
      replace p116 := eq_true p116; replace q116 := eq_true q116
      obtain ⟨c5, c0, g6⟩ := Kd.R_slice a8.out
      (first | subst g6 | (injection g6 with f1_ f2_ f3_; have f4_ := f1_.symm; have f5_ := f3_.symm; clear f1_ f2_ f3_; subst f4_; subst f5_))
      refine start_ (n := 12) (S := fun w' => w'.cell? ad115 = some (.string (rdOf ByteArray.empty a5 0)) ∧ w'.cell? ⟨ad115.block, ad115.off + 1, none⟩ = some (.string (rdOf ByteArray.empty a5 1))) (ds := []) q14_0 (by kernel_rfl) rfl rfl ⟨b1, b2⟩ (fun hHeld => ?_); refine with_tabW spec_AskRead.tab8 spec_AskRead.bits8 (fun HT_ HW_ => ?_)
      generalize wc.drew = w32 at a8 a4 a3 HB b1 b2 hHeld ⊢
      refine pz_ 0 46 q14_1 HT_ (by kernel_rfl) ?_
      refine pz_ 1 47 q14_2 HT_ (by kernel_rfl) ?_
      refine pz_ 2 48 q14_3 HT_ (by kernel_rfl) ?_
      refine pz_ 4 50 q14_4 HT_ (by kernel_rfl) ?_
      refine pz_ 5 51 q14_5 HT_ (by kernel_rfl) ?_
      refine tz_ 3 49 q14_6 HT_ HW_ (by kernel_rfl) hHeld ?_
      refine tz_ 6 52 q14_7 HT_ HW_ (by kernel_rfl) hHeld ?_
      refine pz_ 7 53 q14_8 HT_ (by kernel_rfl) ?_
      refine join_ (σ := Nat) 1 q14_9 (fun s_ => [(54, .int .i64 b3), (8, .pointer (some ⟨s_, 0, none⟩)), (55, .agg #[.slice c5 b0.length c0, .string (rdOf ByteArray.empty a5 0), .int .i64 b3])]) (fun s_ w' => (w'.cell? ad115 = some (.string (rdOf ByteArray.empty a5 0)) ∧ w'.cell? ⟨ad115.block, ad115.off + 1, none⟩ = some (.string (rdOf ByteArray.empty a5 1))) ∧ (Kd.R k65 65 w' w.heap.size (fun _ => True) (.slice c5 b0.length c0) b0) ∧ (Kd.R Kd.string 9 w' w.heap.size (fun _ => True) (.slice (some ad115) a5.length g4) a5) ∧ (w'.heap[a9]? = some (.cells #[.slice none 0 0, .string (⟨#[]⟩ : ByteArray), .int .i64 0] 25 (0, 0))) ∧ (w'.heap[s_]? = some (.cells #[.slice none 0 0, .string (⟨#[]⟩ : ByteArray), .int .i64 0] 25 (0, 0))) ∧ (w.heap.size ≤ s_) ∧ (w.heap.size ≤ s_) ∧ (a9 ≠ s_) ∧ (s_ ≠ a9) ∧ (Below w.heap.size w w')) ?_ ?_
      rotate_left
      ·
       intro hCont
       refine two_ (i := 8) (j := 10) (Ni := some 54) (Nj := some 8) q14_10 q14_11 rfl rfl rfl rfl (two_of HT_.out (by kernel_rfl)) (by decide) (by decide) (fun K hK => ?_) (fun K hK => ?_)
       ·
        skip
        refine goes_ Tryz.func39 (by kernel_rfl) rfl #[.string ((rdOf ByteArray.empty a5 1).extract 2 (rdOf ByteArray.empty a5 1).size)] (by rfl) rfl rfl (by (try simp only [List.map_toArray, List.map_cons, List.map_nil]); first | done | rfl | (simp only [List.length_drop, List.length_take]; rfl)) ?_
        with_reducible refine (spec_l7Num.calls kj13 ((rdOf ByteArray.empty a5 1).extract 2 (rdOf ByteArray.empty a5 1).size) b3 _ A28.out).mono ?_
        rintro e w34 ⟨rfl, hb⟩; have HS0_ := (hb.cell (World.block_lt_of_cell? _ _ (hHeld.1))).trans (hHeld.1); have HS1_ := (hb.cell (World.block_lt_of_cell? _ _ (hHeld.2))).trans (hHeld.2); refine ⟨_, rfl, ?_⟩; have n0_ := yaa (yah (upR a8.out) hb); have n1_ := yaa (yah (upR a4.out) hb); have n2_ := yaa (yak (upB a3.out) hb)
        have n3_ := yaa (yal (by repeat (with_reducible first | exact HB.out | apply yae | apply yab | apply yad | refine yaf ?_ (Aside0.out ‹_›))) hb)
        clear a8; clear a4; clear a3; clear HB; have a8 := n0_; have a4 := n1_; have a3 := n2_; have HB := n3_; clear n0_ n1_ n2_ n3_; (try clear hb); (try clear hb2); (try clear hk); (try clear hi)
        refine hK.out _ _ ⟨HS0_, HS1_⟩ (fun hHeld => ?_)
        clear hK K
        refine norm_ (a' := ?_) ?_ ?_
        rotate_left
        ·
         show Act.put _ (some 54) _ = _
         simp only [Act.put, List.setIfInBounds_toArray, List.set_cons_zero, List.set_cons_succ, i64_w, i32_w]
         rfl
        refine pz_ 9 55 q14_12 HT_ (by kernel_rfl) ?_
        refine one_ (i := 10) (N := some 8) q14_9 rfl rfl (one_of HT_.out (by kernel_rfl)) (by decide) (fun K hK => ?_)
        refine box_step ?hg (N := 8) ?hd (cs := #[.slice none 0 0, .string (⟨#[]⟩ : ByteArray), .int .i64 0]) (t := 25) ?hr ?_; (case hd => rfl); (case hg => rfl); (case hr => first | (go_simp; done) | (go_simp; rfl))
        intro a2 hg w36 hbox hb; have HS0_ := (hb.cell (World.block_lt_of_cell? _ _ (hHeld.1))).trans (hHeld.1); have HS1_ := (hb.cell (World.block_lt_of_cell? _ _ (hHeld.2))).trans (hHeld.2); have n0_ := yaa (yah (upR a8.out) hb); have n1_ := yaa (yah (upR a4.out) hb); have n2_ := yaa (yak (upB a3.out) hb)
        have n3_ := yaa (yal (by repeat (with_reducible first | exact HB.out | apply yae | apply yab | apply yad | refine yaf ?_ (Aside0.out ‹_›))) hb)
        have n4_ := yaa (hbox)
        have n5_ := yaa ((by rw [hg]; exact (yap (by repeat (with_reducible first | exact HB.out | apply yae | apply yab | apply yad | refine yaf ?_ (Aside0.out ‹_›)))) : w.heap.size ≤ a2))
        have n6_ := yaa ((by rw [hg]; exact (yap (by repeat (with_reducible first | exact HB.out | apply yae | apply yab | apply yad | refine yaf ?_ (Aside0.out ‹_›)))) : w.heap.size ≤ a2))
        have n7_ := yaa ((by rw [hg]; exact Nat.ne_of_lt (blk_lt (upB a3.out)) : a9 ≠ a2)); have n8_ := yaa ((by rw [hg]; exact Nat.ne_of_gt (blk_lt (upB a3.out)) : a2 ≠ a9)); clear a8; clear a4; clear a3; clear HB; have a8 := n0_; have a4 := n1_; have a3 := n2_; have HB := n3_; have a1 := n4_; have b5 := n5_; have b6 := n6_; have a6 := n7_; have a7 := n8_; clear n0_ n1_ n2_ n3_ n4_ n5_ n6_ n7_ n8_; clear hb hbox hg
        refine hK.out _ _ ⟨HS0_, HS1_⟩ (fun hHeld => ?_)
        clear hK K
        refine norm_ (a' := ?_) ?_ ?_
        rotate_left
        ·
         show Act.put _ (some 8) _ = _
         simp only [Act.put, List.setIfInBounds_toArray, List.set_cons_zero, List.set_cons_succ, i64_w, i32_w]
         rfl
        exact norm_ (by simp only [putAll, Act.put, List.setIfInBounds_toArray, List.set_cons_zero, List.set_cons_succ]) (hCont (a2) _ ⟨hHeld, (upR a8.out), (upR a4.out), (upB a3.out), (upB a1.out), b5.out, b6.out, a6.out, a7.out, (by repeat (with_reducible first | exact HB.out | apply yae | apply yab | apply yad | refine yaf ?_ (Aside0.out ‹_›)))⟩)
       ·
        skip
        refine box_step ?hg (N := 8) ?hd (cs := #[.slice none 0 0, .string (⟨#[]⟩ : ByteArray), .int .i64 0]) (t := 25) ?hr ?_; (case hd => rfl); (case hg => rfl); (case hr => first | (go_simp; done) | (go_simp; rfl))
        intro a2 hg w34 hbox hb; have HS0_ := (hb.cell (World.block_lt_of_cell? _ _ (hHeld.1))).trans (hHeld.1); have HS1_ := (hb.cell (World.block_lt_of_cell? _ _ (hHeld.2))).trans (hHeld.2); have n0_ := yaa (yah (upR a8.out) hb); have n1_ := yaa (yah (upR a4.out) hb); have n2_ := yaa (yak (upB a3.out) hb)
        have n3_ := yaa (yal (by repeat (with_reducible first | exact HB.out | apply yae | apply yab | apply yad | refine yaf ?_ (Aside0.out ‹_›))) hb)
        have n4_ := yaa (hbox)
        have n5_ := yaa ((by rw [hg]; exact (yap (by repeat (with_reducible first | exact HB.out | apply yae | apply yab | apply yad | refine yaf ?_ (Aside0.out ‹_›)))) : w.heap.size ≤ a2))
        have n6_ := yaa ((by rw [hg]; exact (yap (by repeat (with_reducible first | exact HB.out | apply yae | apply yab | apply yad | refine yaf ?_ (Aside0.out ‹_›)))) : w.heap.size ≤ a2))
        have n7_ := yaa ((by rw [hg]; exact Nat.ne_of_lt (blk_lt (upB a3.out)) : a9 ≠ a2)); have n8_ := yaa ((by rw [hg]; exact Nat.ne_of_gt (blk_lt (upB a3.out)) : a2 ≠ a9)); clear a8; clear a4; clear a3; clear HB; have a8 := n0_; have a4 := n1_; have a3 := n2_; have HB := n3_; have a1 := n4_; have b5 := n5_; have b6 := n6_; have a6 := n7_; have a7 := n8_; clear n0_ n1_ n2_ n3_ n4_ n5_ n6_ n7_ n8_; clear hb hbox hg
        refine hK.out _ _ ⟨HS0_, HS1_⟩ (fun hHeld => ?_)
        clear hK K
        refine norm_ (a' := ?_) ?_ ?_
        rotate_left
        ·
         show Act.put _ (some 8) _ = _
         simp only [Act.put, List.setIfInBounds_toArray, List.set_cons_zero, List.set_cons_succ, i64_w, i32_w]
         rfl
        refine one_ (i := 8) (N := some 54) q14_13 rfl rfl (one_of HT_.out (by kernel_rfl)) (by decide) (fun K hK => ?_)
        refine goes_ Tryz.func39 (by kernel_rfl) rfl #[.string ((rdOf ByteArray.empty a5 1).extract 2 (rdOf ByteArray.empty a5 1).size)] (by rfl) rfl rfl (by (try simp only [List.map_toArray, List.map_cons, List.map_nil]); first | done | rfl | (simp only [List.length_drop, List.length_take]; rfl)) ?_
        with_reducible refine (spec_l7Num.calls kj13 ((rdOf ByteArray.empty a5 1).extract 2 (rdOf ByteArray.empty a5 1).size) b3 _ A28.out).mono ?_
        rintro e w35 ⟨rfl, hb⟩; have HS0_ := (hb.cell (World.block_lt_of_cell? _ _ (hHeld.1))).trans (hHeld.1); have HS1_ := (hb.cell (World.block_lt_of_cell? _ _ (hHeld.2))).trans (hHeld.2); refine ⟨_, rfl, ?_⟩; have n0_ := yaa (yah (upR a8.out) hb); have n1_ := yaa (yah (upR a4.out) hb); have n2_ := yaa (yak (upB a3.out) hb); have n3_ := yaa (yak (upB a1.out) hb)
        have n4_ := yaa (yal (by repeat (with_reducible first | exact HB.out | apply yae | apply yab | apply yad | refine yaf ?_ (Aside0.out ‹_›))) hb)
        clear a8; clear a4; clear a3; clear a1; clear HB; have a8 := n0_; have a4 := n1_; have a3 := n2_; have a1 := n3_; have HB := n4_; clear n0_ n1_ n2_ n3_ n4_; (try clear hb); (try clear hb2); (try clear hk); (try clear hi); obtain ⟨t1, t2, g7⟩ := Kd.R_slice a8.out
        (first | subst g7 | (injection g7 with f1_ f2_ f3_; have f4_ := f1_.symm; have f5_ := f3_.symm; clear f1_ f2_ f3_; subst f4_; subst f5_))
        refine hK.out _ _ ⟨HS0_, HS1_⟩ (fun hHeld => ?_)
        clear hK K
        refine norm_ (a' := ?_) ?_ ?_
        rotate_left
        ·
         show Act.put _ (some 54) _ = _
         simp only [Act.put, List.setIfInBounds_toArray, List.set_cons_zero, List.set_cons_succ, i64_w, i32_w]
         rfl
        refine pz_ 9 55 q14_9 HT_ (by kernel_rfl) ?_
        exact norm_ (by simp only [putAll, Act.put, List.setIfInBounds_toArray, List.set_cons_zero, List.set_cons_succ]) (hCont (a2) _ ⟨hHeld, (upR a8.out), (upR a4.out), (upB a3.out), (upB a1.out), b5.out, b6.out, a6.out, a7.out, (by repeat (with_reducible first | exact HB.out | apply yae | apply yab | apply yad | refine yaf ?_ (Aside0.out ‹_›)))⟩)
      rintro a2 w37 ⟨hS_, h0_, h1_, h2_, h3_, h4_, h5_, h6_, h7_, h8_⟩; have n0_ : yan (Kd.R k65 65 w37 w.heap.size (fun _ => True) (.slice c5 b0.length c0) b0) := ⟨h0_⟩; have n1_ : yan (Kd.R Kd.string 9 w37 w.heap.size (fun _ => True) (.slice (some ad115) a5.length g4) a5) := ⟨h1_⟩; have n2_ : yan (w37.heap[a9]? = some (.cells #[.slice none 0 0, .string (⟨#[]⟩ : ByteArray), .int .i64 0] 25 (0, 0))) := ⟨h2_⟩; have n3_ : yan (w37.heap[a2]? = some (.cells #[.slice none 0 0, .string (⟨#[]⟩ : ByteArray), .int .i64 0] 25 (0, 0))) := ⟨h3_⟩; have n4_ : yan (w.heap.size ≤ a2) := ⟨h4_⟩; have n5_ : yan (w.heap.size ≤ a2) := ⟨h5_⟩; have n6_ : yan (a9 ≠ a2) := ⟨h6_⟩; have n7_ : yan (a2 ≠ a9) := ⟨h7_⟩; have n8_ : yan (Below w.heap.size w w37) := ⟨h8_⟩; clear a8; clear a4; clear a3; clear HB; clear h0_ h1_ h2_ h3_ h4_ h5_ h6_ h7_ h8_; have a8 := n0_; have a4 := n1_; have a3 := n2_; have a1 := n3_; have b5 := n4_; have b6 := n5_; have a6 := n6_; have a7 := n7_; have HB := n8_; clear n0_ n1_ n2_ n3_ n4_ n5_ n6_ n7_ n8_; have hHeld : w37.cell? ad115 = some (.string (rdOf ByteArray.empty a5 0)) ∧ w37.cell? ⟨ad115.block, ad115.off + 1, none⟩ = some (.string (rdOf ByteArray.empty a5 1)) := hS_
      refine norm_ (a' := ?_) ?_ ?_
      rotate_left
      ·
       simp only [putAll, Act.put, List.setIfInBounds_toArray, List.set_cons_zero, List.set_cons_succ]
       rfl
      refine one_ (i := 11) (N := none) q14_14 rfl rfl (one_of HT_.out (by kernel_rfl)) (by decide) (fun K hK => ?_)
      have t3 : w37.cell? ⟨a2, 0, none⟩ = some (.slice none 0 0) := (blk_cell a1.out 0).trans rfl; have q3 := blk_frozen a1.out 0; have i3 := a6.out; have i4 := a7.out; have t4 : w37.cell? ⟨a2, 1, none⟩ = some (.string (⟨#[]⟩ : ByteArray)) := (blk_cell a1.out 1).trans rfl; have q4 := blk_frozen a1.out 1; have i5 := a6.out; have i6 := a7.out; have t5 : w37.cell? ⟨a2, 2, none⟩ = some (.int .i64 0) := (blk_cell a1.out 2).trans rfl; have q5 := blk_frozen a1.out 2; have i7 := a6.out; have i8 := a7.out
      refine skip_ (by rfl) rfl (st3_ (b := a2) (A := c5) (n := b0.length) (c := c0) (p := (rdOf ByteArray.empty a5 0)) (x := b3) rfl rfl a1.out) ?_
      have hne_ := yac (yag a4.out a1.out (by decide))
      refine hK.out _ _ ⟨cell3_ hne_ hHeld.1, cell3_ hne_ hHeld.2⟩ (fun hHeld => ?_)
      clear hK K
      refine done_ (done_of HT_.out (by kernel_rfl)) ?_
      have q6 := a7.out; have q7 := a6.out; obtain ⟨i9, j2, j3⟩ := cc3_ a1.out; obtain ⟨j4, j5, j6⟩ := cf3_ a1.out
      try go_wp2_with (first | ((with_reducible refine gd_ 56 rfl ?_); refine Kd.event_run rfl (ld3_ (b := a2) (A := c5) (n := b0.length) (c := c0) (p := (rdOf ByteArray.empty a5 0)) (x := b3) rfl (by (repeat refine oneB ?_); refine blk_put (cs := #[.slice c5 b0.length c0, .string (rdOf ByteArray.empty a5 0), .int .i64 0]) ?_ 2 _ rfl; refine blk_put (cs := #[.slice c5 b0.length c0, .string (⟨#[]⟩ : ByteArray), .int .i64 0]) ?_ 1 _ rfl; refine blk_put (cs := #[.slice none 0 0, .string (⟨#[]⟩ : ByteArray), .int .i64 0]) ?_ 0 _ rfl; exact upB a1.out)) ?_) | ((with_reducible refine gc_ 22 rfl ?_); refine gl_ (some 57) rfl Tryz.func22 #[.agg #[.slice c5 b0.length c0, .string (rdOf ByteArray.empty a5 0), .int .i64 b3]] ?_; (with_reducible refine (spec_AskText.calls kj13 _ _ b0 (rdOf ByteArray.empty a5 0) b3 e3 _ ?side1 ?side2 A29.out).mono ?_); (case side1 => refine (yam (e := 65) (base := w.heap.size) (ok := fun k_ => True) (n := b0.length) (c := c0) ?_).2.2; exact (by (with_reducible repeat (first | apply Kd.R_alloc | apply Kd.R_drewN | apply yao)); exact (Kd.R_mono (yaj (p := ⟨a2, 2, none⟩) (yaj (p := ⟨a2, 1, none⟩) (yaj (p := ⟨a2, 0, none⟩) (Kd.R_types a8.out a1.out (by decide)) (fun _ hk => hk.2) (.slice c5 b0.length c0)) (fun _ hk => hk.2) (.string (rdOf ByteArray.empty a5 0))) (fun _ hk => hk.2) (.int .i64 b3)) (fun _ h_ => h_.1)))); (case side2 => exact (yam a8.out).2.1); rintro e w43 ⟨rfl, hb⟩; refine ⟨_, rfl, ?_⟩; replace a8 := yaa (yah (by (with_reducible repeat (first | apply Kd.R_alloc | apply Kd.R_drewN | apply yao)); exact (Kd.R_mono (yaj (p := ⟨a2, 2, none⟩) (yaj (p := ⟨a2, 1, none⟩) (yaj (p := ⟨a2, 0, none⟩) (Kd.R_types a8.out a1.out (by decide)) (fun _ hk => hk.2) (.slice c5 b0.length c0)) (fun _ hk => hk.2) (.string (rdOf ByteArray.empty a5 0))) (fun _ hk => hk.2) (.int .i64 b3)) (fun _ h_ => h_.1))) hb); replace a4 := yaa (yah (by (with_reducible repeat (first | apply Kd.R_alloc | apply Kd.R_drewN | apply yao)); exact (Kd.R_mono (yaj (p := ⟨a2, 2, none⟩) (yaj (p := ⟨a2, 1, none⟩) (yaj (p := ⟨a2, 0, none⟩) (Kd.R_types a4.out a1.out (by decide)) (fun _ hk => hk.2) (.slice c5 b0.length c0)) (fun _ hk => hk.2) (.string (rdOf ByteArray.empty a5 0))) (fun _ hk => hk.2) (.int .i64 b3)) (fun _ h_ => h_.1))) hb); replace a3 := yaa (yak (g := a9) (o := .cells #[.slice none 0 0, .string (⟨#[]⟩ : ByteArray), .int .i64 0] 25 (0, 0)) (by repeat (with_reducible first | exact a3.out | refine oneB ?_ | refine blk_far ?_ a6.out _)) hb); replace a1 := yaa (yak (g := a2) (o := .cells #[.slice c5 b0.length c0, .string (rdOf ByteArray.empty a5 0), .int .i64 b3] 25 (0, 0)) (by (repeat refine oneB ?_); refine blk_put (cs := #[.slice c5 b0.length c0, .string (rdOf ByteArray.empty a5 0), .int .i64 0]) ?_ 2 _ rfl; refine blk_put (cs := #[.slice c5 b0.length c0, .string (⟨#[]⟩ : ByteArray), .int .i64 0]) ?_ 1 _ rfl; refine blk_put (cs := #[.slice none 0 0, .string (⟨#[]⟩ : ByteArray), .int .i64 0]) ?_ 0 _ rfl; exact upB a1.out) hb); replace HB := yaa (yal (by repeat (with_reducible first | exact HB.out | apply yae | apply yab | apply yad | refine yaf ?_ (Aside0.out ‹_›))) hb); (try clear hb); obtain ⟨j7, j8, j9⟩ := cc3_ a3.out; obtain ⟨k0, k1⟩ := cf2_ a3.out; have k2 := blk_frozen a3.out 2))
      refine bodyPost_ret (results_ct rfl _ _ a9 25 #[.slice none 0 0, .string (⟨#[]⟩ : ByteArray), .int .i64 0] (0, 0) _ rfl (by (repeat refine oneB ?_); refine blk_put (cs := #[.slice none 0 0, .string (⟨#[]⟩ : ByteArray), .int .i64 0]) ?_ 2 _ rfl; refine blk_put (cs := #[.slice none 0 0, .string (⟨#[]⟩ : ByteArray), .int .i64 0]) ?_ 1 _ rfl; refine blk_put (cs := #[.slice none 0 0, .string (⟨#[]⟩ : ByteArray), .int .i64 0]) ?_ 0 _ rfl; exact upB a3.out) Tryz.underlying25 rfl (by kernel_rfl)) rfl ?_
      exact ⟨_, by first | rfl | (simp [*, errW_none, errW_some] <;> rfl), by first | exact Kd.R_nil _ _ _ _ _ | exact Kd.N_nil _ _ _ _ _ | exact Kd.V_nil _ _ _ _ _ | exact Kd.Q_nil _ _ _ _ _ | exact Kd.S_nil _ _ _ _ _, by repeat (with_reducible first | exact HB.out | apply yae | apply yab | apply yad | refine yaf ?_ (Aside0.out ‹_›))⟩
     rw [if_neg c31] at H
     have g2 := beq_eq_false_iff_ne.mpr c31; have g3 := bne_iff_ne.mpr c31
     simp only [Option.some.injEq, Prod.mk.injEq] at H
     obtain ⟨rfl, rfl, rfl, rfl⟩ := H
     try go_wp2
     replace a8 := yaa (yao a8.out); replace a4 := yaa (yao a4.out); replace a3 := yaa (blk_drew a3.out); replace HB := yaa (yad HB.out); obtain ⟨t6, g9, h0⟩ := Kd.R_slice a4.out
     (first | subst h0 | (injection h0 with f1_ f2_ f3_; have f4_ := f1_.symm; have f5_ := f3_.symm; clear f1_ f2_ f3_; subst f4_; subst f5_))
     have p115 : 0 ≤ (0 : Int) := (by omega); have q115 : 0 < (a5.length : Int) := of_decide_eq_true (by assumption); obtain ⟨ad115, e1, b1⟩ := Kd.at_string (yam a4.out).2.2 0 p115 q115
     cases e1
     have qi115 : (0 < a5.length) = True := eq_true (by omega)
     (try rw [show ((0 : Int)).toNat = 0 from rfl] at b1)
     (try rw [Addr.add_zero'] at b1)
     replace p115 := eq_true p115; replace q115 := eq_true q115; have p116 : 0 ≤ (1 : Int) := (by omega); have q116 : 1 < (a5.length : Int) := of_decide_eq_true (by assumption); obtain ⟨ad116, e2, b2⟩ := Kd.at_string (yam a4.out).2.2 1 p116 q116; obtain rfl : ad115 = ad116 := (by injection e2)
     (try simp only [show (1 : Int).toNat = 1 from rfl, Nat.reduceMul, Nat.reduceEqDiff, Go.Addr.add, ↓reduceIte] at b2)
     have qi116 : (1 < a5.length) = True := eq_true (by omega)
     (try rw [show ((1 : Int)).toNat = 1 from rfl] at b2)
     replace p116 := eq_true p116; replace q116 := eq_true q116
     obtain ⟨b8, b7, h1⟩ := Kd.R_slice a8.out
     (first | subst h1 | (injection h1 with f1_ f2_ f3_; have f4_ := f1_.symm; have f5_ := f3_.symm; clear f1_ f2_ f3_; subst f4_; subst f5_))
     refine start_ (n := 12) (S := fun w' => w'.cell? ad115 = some (.string (rdOf ByteArray.empty a5 0)) ∧ w'.cell? ⟨ad115.block, ad115.off + 1, none⟩ = some (.string (rdOf ByteArray.empty a5 1))) (ds := []) q14_0 (by kernel_rfl) rfl rfl ⟨b1, b2⟩ (fun hHeld => ?_); refine with_tabW spec_AskRead.tab8 spec_AskRead.bits8 (fun HT_ HW_ => ?_)
     generalize wc.drew = w45 at a8 a4 a3 HB b1 b2 hHeld ⊢
     refine pz_ 0 46 q14_1 HT_ (by kernel_rfl) ?_
     refine pz_ 1 47 q14_2 HT_ (by kernel_rfl) ?_
     refine pz_ 2 48 q14_3 HT_ (by kernel_rfl) ?_
     refine pz_ 4 50 q14_4 HT_ (by kernel_rfl) ?_
     refine pz_ 5 51 q14_5 HT_ (by kernel_rfl) ?_
     refine tz_ 3 49 q14_6 HT_ HW_ (by kernel_rfl) hHeld ?_
     refine tz_ 6 52 q14_7 HT_ HW_ (by kernel_rfl) hHeld ?_
     refine pz_ 7 53 q14_8 HT_ (by kernel_rfl) ?_
     refine join_ (σ := Nat) 1 q14_9 (fun s_ => [(54, .int .i64 b3), (8, .pointer (some ⟨s_, 0, none⟩)), (55, .agg #[.slice b8 b0.length b7, .string (rdOf ByteArray.empty a5 0), .int .i64 b3])]) (fun s_ w' => (w'.cell? ad115 = some (.string (rdOf ByteArray.empty a5 0)) ∧ w'.cell? ⟨ad115.block, ad115.off + 1, none⟩ = some (.string (rdOf ByteArray.empty a5 1))) ∧ (Kd.R k65 65 w' w.heap.size (fun _ => True) (.slice b8 b0.length b7) b0) ∧ (Kd.R Kd.string 9 w' w.heap.size (fun _ => True) (.slice (some ad115) a5.length g9) a5) ∧ (w'.heap[a9]? = some (.cells #[.slice none 0 0, .string (⟨#[]⟩ : ByteArray), .int .i64 0] 25 (0, 0))) ∧ (w'.heap[s_]? = some (.cells #[.slice none 0 0, .string (⟨#[]⟩ : ByteArray), .int .i64 0] 25 (0, 0))) ∧ (w.heap.size ≤ s_) ∧ (w.heap.size ≤ s_) ∧ (a9 ≠ s_) ∧ (s_ ≠ a9) ∧ (Below w.heap.size w w')) ?_ ?_
     rotate_left
     ·
      intro hCont
      refine two_ (i := 8) (j := 10) (Ni := some 54) (Nj := some 8) q14_10 q14_11 rfl rfl rfl rfl (two_of HT_.out (by kernel_rfl)) (by decide) (by decide) (fun K hK => ?_) (fun K hK => ?_)
      ·
       skip
       refine goes_ Tryz.func39 (by kernel_rfl) rfl #[.string ((rdOf ByteArray.empty a5 1).extract 2 (rdOf ByteArray.empty a5 1).size)] (by rfl) rfl rfl (by (try simp only [List.map_toArray, List.map_cons, List.map_nil]); first | done | rfl | (simp only [List.length_drop, List.length_take]; rfl)) ?_
       with_reducible refine (spec_l7Num.calls kj13 ((rdOf ByteArray.empty a5 1).extract 2 (rdOf ByteArray.empty a5 1).size) b3 _ A28.out).mono ?_
       rintro e w47 ⟨rfl, hb⟩; have HS0_ := (hb.cell (World.block_lt_of_cell? _ _ (hHeld.1))).trans (hHeld.1); have HS1_ := (hb.cell (World.block_lt_of_cell? _ _ (hHeld.2))).trans (hHeld.2); refine ⟨_, rfl, ?_⟩; have n0_ := yaa (yah (upR a8.out) hb); have n1_ := yaa (yah (upR a4.out) hb); have n2_ := yaa (yak (upB a3.out) hb)
       have n3_ := yaa (yal (by repeat (with_reducible first | exact HB.out | apply yae | apply yab | apply yad | refine yaf ?_ (Aside0.out ‹_›))) hb)
       clear a8; clear a4; clear a3; clear HB; have a8 := n0_; have a4 := n1_; have a3 := n2_; have HB := n3_; clear n0_ n1_ n2_ n3_; (try clear hb); (try clear hb2); (try clear hk); (try clear hi)
       refine hK.out _ _ ⟨HS0_, HS1_⟩ (fun hHeld => ?_)
       clear hK K
       refine norm_ (a' := ?_) ?_ ?_
       rotate_left
       ·
        show Act.put _ (some 54) _ = _
        simp only [Act.put, List.setIfInBounds_toArray, List.set_cons_zero, List.set_cons_succ, i64_w, i32_w]
        rfl
       refine pz_ 9 55 q14_12 HT_ (by kernel_rfl) ?_
       refine one_ (i := 10) (N := some 8) q14_9 rfl rfl (one_of HT_.out (by kernel_rfl)) (by decide) (fun K hK => ?_)
       refine box_step ?hg (N := 8) ?hd (cs := #[.slice none 0 0, .string (⟨#[]⟩ : ByteArray), .int .i64 0]) (t := 25) ?hr ?_; (case hd => rfl); (case hg => rfl); (case hr => first | (go_simp; done) | (go_simp; rfl))
       intro a2 hg w49 hbox hb; have HS0_ := (hb.cell (World.block_lt_of_cell? _ _ (hHeld.1))).trans (hHeld.1); have HS1_ := (hb.cell (World.block_lt_of_cell? _ _ (hHeld.2))).trans (hHeld.2); have n0_ := yaa (yah (upR a8.out) hb); have n1_ := yaa (yah (upR a4.out) hb); have n2_ := yaa (yak (upB a3.out) hb)
       have n3_ := yaa (yal (by repeat (with_reducible first | exact HB.out | apply yae | apply yab | apply yad | refine yaf ?_ (Aside0.out ‹_›))) hb)
       have n4_ := yaa (hbox)
       have n5_ := yaa ((by rw [hg]; exact (yap (by repeat (with_reducible first | exact HB.out | apply yae | apply yab | apply yad | refine yaf ?_ (Aside0.out ‹_›)))) : w.heap.size ≤ a2))
       have n6_ := yaa ((by rw [hg]; exact (yap (by repeat (with_reducible first | exact HB.out | apply yae | apply yab | apply yad | refine yaf ?_ (Aside0.out ‹_›)))) : w.heap.size ≤ a2))
       have n7_ := yaa ((by rw [hg]; exact Nat.ne_of_lt (blk_lt (upB a3.out)) : a9 ≠ a2)); have n8_ := yaa ((by rw [hg]; exact Nat.ne_of_gt (blk_lt (upB a3.out)) : a2 ≠ a9)); clear a8; clear a4; clear a3; clear HB; have a8 := n0_; have a4 := n1_; have a3 := n2_; have HB := n3_; have a1 := n4_; have b5 := n5_; have b6 := n6_; have a6 := n7_; have a7 := n8_; clear n0_ n1_ n2_ n3_ n4_ n5_ n6_ n7_ n8_; clear hb hbox hg
       refine hK.out _ _ ⟨HS0_, HS1_⟩ (fun hHeld => ?_)
       clear hK K
       refine norm_ (a' := ?_) ?_ ?_
       rotate_left
       ·
        show Act.put _ (some 8) _ = _
        simp only [Act.put, List.setIfInBounds_toArray, List.set_cons_zero, List.set_cons_succ, i64_w, i32_w]
        rfl
       exact norm_ (by simp only [putAll, Act.put, List.setIfInBounds_toArray, List.set_cons_zero, List.set_cons_succ]) (hCont (a2) _ ⟨hHeld, (upR a8.out), (upR a4.out), (upB a3.out), (upB a1.out), b5.out, b6.out, a6.out, a7.out, (by repeat (with_reducible first | exact HB.out | apply yae | apply yab | apply yad | refine yaf ?_ (Aside0.out ‹_›)))⟩)
      ·
       skip
       refine box_step ?hg (N := 8) ?hd (cs := #[.slice none 0 0, .string (⟨#[]⟩ : ByteArray), .int .i64 0]) (t := 25) ?hr ?_; (case hd => rfl); (case hg => rfl); (case hr => first | (go_simp; done) | (go_simp; rfl))
       intro a2 hg w47 hbox hb; have HS0_ := (hb.cell (World.block_lt_of_cell? _ _ (hHeld.1))).trans (hHeld.1); have HS1_ := (hb.cell (World.block_lt_of_cell? _ _ (hHeld.2))).trans (hHeld.2); have n0_ := yaa (yah (upR a8.out) hb); have n1_ := yaa (yah (upR a4.out) hb); have n2_ := yaa (yak (upB a3.out) hb)
       have n3_ := yaa (yal (by repeat (with_reducible first | exact HB.out | apply yae | apply yab | apply yad | refine yaf ?_ (Aside0.out ‹_›))) hb)
       have n4_ := yaa (hbox)
       have n5_ := yaa ((by rw [hg]; exact (yap (by repeat (with_reducible first | exact HB.out | apply yae | apply yab | apply yad | refine yaf ?_ (Aside0.out ‹_›)))) : w.heap.size ≤ a2))
       have n6_ := yaa ((by rw [hg]; exact (yap (by repeat (with_reducible first | exact HB.out | apply yae | apply yab | apply yad | refine yaf ?_ (Aside0.out ‹_›)))) : w.heap.size ≤ a2))
       have n7_ := yaa ((by rw [hg]; exact Nat.ne_of_lt (blk_lt (upB a3.out)) : a9 ≠ a2)); have n8_ := yaa ((by rw [hg]; exact Nat.ne_of_gt (blk_lt (upB a3.out)) : a2 ≠ a9)); clear a8; clear a4; clear a3; clear HB; have a8 := n0_; have a4 := n1_; have a3 := n2_; have HB := n3_; have a1 := n4_; have b5 := n5_; have b6 := n6_; have a6 := n7_; have a7 := n8_; clear n0_ n1_ n2_ n3_ n4_ n5_ n6_ n7_ n8_; clear hb hbox hg
       refine hK.out _ _ ⟨HS0_, HS1_⟩ (fun hHeld => ?_)
       clear hK K
       refine norm_ (a' := ?_) ?_ ?_
       rotate_left
       ·
        show Act.put _ (some 8) _ = _
        simp only [Act.put, List.setIfInBounds_toArray, List.set_cons_zero, List.set_cons_succ, i64_w, i32_w]
        rfl
       refine one_ (i := 8) (N := some 54) q14_13 rfl rfl (one_of HT_.out (by kernel_rfl)) (by decide) (fun K hK => ?_)
       refine goes_ Tryz.func39 (by kernel_rfl) rfl #[.string ((rdOf ByteArray.empty a5 1).extract 2 (rdOf ByteArray.empty a5 1).size)] (by rfl) rfl rfl (by (try simp only [List.map_toArray, List.map_cons, List.map_nil]); first | done | rfl | (simp only [List.length_drop, List.length_take]; rfl)) ?_
       with_reducible refine (spec_l7Num.calls kj13 ((rdOf ByteArray.empty a5 1).extract 2 (rdOf ByteArray.empty a5 1).size) b3 _ A28.out).mono ?_
       rintro e w48 ⟨rfl, hb⟩; have HS0_ := (hb.cell (World.block_lt_of_cell? _ _ (hHeld.1))).trans (hHeld.1); have HS1_ := (hb.cell (World.block_lt_of_cell? _ _ (hHeld.2))).trans (hHeld.2); refine ⟨_, rfl, ?_⟩; have n0_ := yaa (yah (upR a8.out) hb); have n1_ := yaa (yah (upR a4.out) hb); have n2_ := yaa (yak (upB a3.out) hb); have n3_ := yaa (yak (upB a1.out) hb)
       have n4_ := yaa (yal (by repeat (with_reducible first | exact HB.out | apply yae | apply yab | apply yad | refine yaf ?_ (Aside0.out ‹_›))) hb)
       clear a8; clear a4; clear a3; clear a1; clear HB; have a8 := n0_; have a4 := n1_; have a3 := n2_; have a1 := n3_; have HB := n4_; clear n0_ n1_ n2_ n3_ n4_; (try clear hb); (try clear hb2); (try clear hk); (try clear hi); obtain ⟨t7, t8, h2⟩ := Kd.R_slice a8.out
       (first | subst h2 | (injection h2 with f1_ f2_ f3_; have f4_ := f1_.symm; have f5_ := f3_.symm; clear f1_ f2_ f3_; subst f4_; subst f5_))
       refine hK.out _ _ ⟨HS0_, HS1_⟩ (fun hHeld => ?_)
       clear hK K
       refine norm_ (a' := ?_) ?_ ?_
       rotate_left
       ·
        show Act.put _ (some 54) _ = _
        simp only [Act.put, List.setIfInBounds_toArray, List.set_cons_zero, List.set_cons_succ, i64_w, i32_w]
        rfl
       refine pz_ 9 55 q14_9 HT_ (by kernel_rfl) ?_
       exact norm_ (by simp only [putAll, Act.put, List.setIfInBounds_toArray, List.set_cons_zero, List.set_cons_succ]) (hCont (a2) _ ⟨hHeld, (upR a8.out), (upR a4.out), (upB a3.out), (upB a1.out), b5.out, b6.out, a6.out, a7.out, (by repeat (with_reducible first | exact HB.out | apply yae | apply yab | apply yad | refine yaf ?_ (Aside0.out ‹_›)))⟩)
     rintro a2 w50 ⟨hS_, h0_, h1_, h2_, h3_, h4_, h5_, h6_, h7_, h8_⟩; have n0_ : yan (Kd.R k65 65 w50 w.heap.size (fun _ => True) (.slice b8 b0.length b7) b0) := ⟨h0_⟩; have n1_ : yan (Kd.R Kd.string 9 w50 w.heap.size (fun _ => True) (.slice (some ad115) a5.length g9) a5) := ⟨h1_⟩; have n2_ : yan (w50.heap[a9]? = some (.cells #[.slice none 0 0, .string (⟨#[]⟩ : ByteArray), .int .i64 0] 25 (0, 0))) := ⟨h2_⟩; have n3_ : yan (w50.heap[a2]? = some (.cells #[.slice none 0 0, .string (⟨#[]⟩ : ByteArray), .int .i64 0] 25 (0, 0))) := ⟨h3_⟩; have n4_ : yan (w.heap.size ≤ a2) := ⟨h4_⟩; have n5_ : yan (w.heap.size ≤ a2) := ⟨h5_⟩; have n6_ : yan (a9 ≠ a2) := ⟨h6_⟩; have n7_ : yan (a2 ≠ a9) := ⟨h7_⟩; have n8_ : yan (Below w.heap.size w w50) := ⟨h8_⟩; clear a8; clear a4; clear a3; clear HB; clear h0_ h1_ h2_ h3_ h4_ h5_ h6_ h7_ h8_; have a8 := n0_; have a4 := n1_; have a3 := n2_; have a1 := n3_; have b5 := n4_; have b6 := n5_; have a6 := n6_; have a7 := n7_; have HB := n8_; clear n0_ n1_ n2_ n3_ n4_ n5_ n6_ n7_ n8_; have hHeld : w50.cell? ad115 = some (.string (rdOf ByteArray.empty a5 0)) ∧ w50.cell? ⟨ad115.block, ad115.off + 1, none⟩ = some (.string (rdOf ByteArray.empty a5 1)) := hS_
     refine norm_ (a' := ?_) ?_ ?_
     rotate_left
     ·
      simp only [putAll, Act.put, List.setIfInBounds_toArray, List.set_cons_zero, List.set_cons_succ]
      rfl
     refine one_ (i := 11) (N := none) q14_14 rfl rfl (one_of HT_.out (by kernel_rfl)) (by decide) (fun K hK => ?_)
     have t9 : w50.cell? ⟨a2, 0, none⟩ = some (.slice none 0 0) := (blk_cell a1.out 0).trans rfl; have q8 := blk_frozen a1.out 0; have k3 := a6.out; have k4 := a7.out; have u0 : w50.cell? ⟨a2, 1, none⟩ = some (.string (⟨#[]⟩ : ByteArray)) := (blk_cell a1.out 1).trans rfl; have q9 := blk_frozen a1.out 1; have k5 := a6.out; have k6 := a7.out; have u1 : w50.cell? ⟨a2, 2, none⟩ = some (.int .i64 0) := (blk_cell a1.out 2).trans rfl; have r0 := blk_frozen a1.out 2; have k7 := a6.out; have k8 := a7.out
     refine skip_ (by rfl) rfl (st3_ (b := a2) (A := b8) (n := b0.length) (c := b7) (p := (rdOf ByteArray.empty a5 0)) (x := b3) rfl rfl a1.out) ?_
     have hne_ := yac (yag a4.out a1.out (by decide))
     refine hK.out _ _ ⟨cell3_ hne_ hHeld.1, cell3_ hne_ hHeld.2⟩ (fun hHeld => ?_)
     clear hK K
     refine done_ (done_of HT_.out (by kernel_rfl)) ?_
     have r5 := a7.out; have r6 := a6.out; obtain ⟨k9, l0, l1⟩ := cc3_ a1.out; obtain ⟨l2, l3, l4⟩ := cf3_ a1.out
     try go_wp2_with (first | ((with_reducible refine gd_ 56 rfl ?_); refine Kd.event_run rfl (ld3_ (b := a2) (A := b8) (n := b0.length) (c := b7) (p := (rdOf ByteArray.empty a5 0)) (x := b3) rfl (by (repeat refine oneB ?_); refine blk_put (cs := #[.slice b8 b0.length b7, .string (rdOf ByteArray.empty a5 0), .int .i64 0]) ?_ 2 _ rfl; refine blk_put (cs := #[.slice b8 b0.length b7, .string (⟨#[]⟩ : ByteArray), .int .i64 0]) ?_ 1 _ rfl; refine blk_put (cs := #[.slice none 0 0, .string (⟨#[]⟩ : ByteArray), .int .i64 0]) ?_ 0 _ rfl; exact upB a1.out)) ?_) | ((with_reducible refine gc_ 22 rfl ?_); refine gl_ (some 57) rfl Tryz.func22 #[.agg #[.slice b8 b0.length b7, .string (rdOf ByteArray.empty a5 0), .int .i64 b3]] ?_; (with_reducible refine (spec_AskText.calls kj13 _ _ b0 (rdOf ByteArray.empty a5 0) b3 e3 _ ?side1 ?side2 A29.out).mono ?_); (case side1 => refine (yam (e := 65) (base := w.heap.size) (ok := fun k_ => True) (n := b0.length) (c := b7) ?_).2.2; exact (by (with_reducible repeat (first | apply Kd.R_alloc | apply Kd.R_drewN | apply yao)); exact (Kd.R_mono (yaj (p := ⟨a2, 2, none⟩) (yaj (p := ⟨a2, 1, none⟩) (yaj (p := ⟨a2, 0, none⟩) (Kd.R_types a8.out a1.out (by decide)) (fun _ hk => hk.2) (.slice b8 b0.length b7)) (fun _ hk => hk.2) (.string (rdOf ByteArray.empty a5 0))) (fun _ hk => hk.2) (.int .i64 b3)) (fun _ h_ => h_.1)))); (case side2 => exact (yam a8.out).2.1); rintro e w56 ⟨rfl, hb⟩; refine ⟨_, rfl, ?_⟩; replace a8 := yaa (yah (by (with_reducible repeat (first | apply Kd.R_alloc | apply Kd.R_drewN | apply yao)); exact (Kd.R_mono (yaj (p := ⟨a2, 2, none⟩) (yaj (p := ⟨a2, 1, none⟩) (yaj (p := ⟨a2, 0, none⟩) (Kd.R_types a8.out a1.out (by decide)) (fun _ hk => hk.2) (.slice b8 b0.length b7)) (fun _ hk => hk.2) (.string (rdOf ByteArray.empty a5 0))) (fun _ hk => hk.2) (.int .i64 b3)) (fun _ h_ => h_.1))) hb); replace a4 := yaa (yah (by (with_reducible repeat (first | apply Kd.R_alloc | apply Kd.R_drewN | apply yao)); exact (Kd.R_mono (yaj (p := ⟨a2, 2, none⟩) (yaj (p := ⟨a2, 1, none⟩) (yaj (p := ⟨a2, 0, none⟩) (Kd.R_types a4.out a1.out (by decide)) (fun _ hk => hk.2) (.slice b8 b0.length b7)) (fun _ hk => hk.2) (.string (rdOf ByteArray.empty a5 0))) (fun _ hk => hk.2) (.int .i64 b3)) (fun _ h_ => h_.1))) hb); replace a3 := yaa (yak (g := a9) (o := .cells #[.slice none 0 0, .string (⟨#[]⟩ : ByteArray), .int .i64 0] 25 (0, 0)) (by repeat (with_reducible first | exact a3.out | refine oneB ?_ | refine blk_far ?_ a6.out _)) hb); replace a1 := yaa (yak (g := a2) (o := .cells #[.slice b8 b0.length b7, .string (rdOf ByteArray.empty a5 0), .int .i64 b3] 25 (0, 0)) (by (repeat refine oneB ?_); refine blk_put (cs := #[.slice b8 b0.length b7, .string (rdOf ByteArray.empty a5 0), .int .i64 0]) ?_ 2 _ rfl; refine blk_put (cs := #[.slice b8 b0.length b7, .string (⟨#[]⟩ : ByteArray), .int .i64 0]) ?_ 1 _ rfl; refine blk_put (cs := #[.slice none 0 0, .string (⟨#[]⟩ : ByteArray), .int .i64 0]) ?_ 0 _ rfl; exact upB a1.out) hb); replace HB := yaa (yal (by repeat (with_reducible first | exact HB.out | apply yae | apply yab | apply yad | refine yaf ?_ (Aside0.out ‹_›))) hb); (try clear hb); obtain ⟨l5, l6, l7⟩ := cc3_ a1.out; obtain ⟨l8, l9, m0⟩ := cf3_ a1.out; obtain ⟨m1, m2, m3⟩ := cc3_ a3.out; obtain ⟨m4, m5⟩ := cf2_ a3.out; have m6 := blk_frozen a3.out 2))
     refine bodyPost_ret (results_ct rfl _ _ a9 25 #[.slice b8 b0.length b7, .string (rdOf ByteArray.empty a5 0), .int .i64 b3] (0, 0) _ rfl (by (repeat refine oneB ?_); refine blk_put (cs := #[.slice b8 b0.length b7, .string (rdOf ByteArray.empty a5 0), .int .i64 0]) ?_ 2 _ rfl; refine blk_put (cs := #[.slice b8 b0.length b7, .string (⟨#[]⟩ : ByteArray), .int .i64 0]) ?_ 1 _ rfl; refine blk_put (cs := #[.slice none 0 0, .string (⟨#[]⟩ : ByteArray), .int .i64 0]) ?_ 0 _ rfl; exact upB a3.out) Tryz.underlying25 rfl (by kernel_rfl)) rfl ?_
     exact ⟨_, by first | rfl | (simp [*, errW_none, errW_some] <;> rfl), by (with_reducible repeat (first | apply Kd.R_alloc | apply Kd.R_drewN | apply yao)); exact Kd.R_mono (yaj (p := ⟨a9, 2, none⟩) (yaj (p := ⟨a9, 1, none⟩) (yaj (p := ⟨a9, 0, none⟩) (Kd.R_types a8.out a3.out (by decide)) (fun _ hk => hk.2) (.slice b8 b0.length b7)) (fun _ hk => hk.2) (.string (rdOf ByteArray.empty a5 0))) (fun _ hk => hk.2) (.int .i64 b3)) (fun _ hk => trivial), by repeat (with_reducible first | exact HB.out | apply yae | apply yab | apply yad | refine yaf ?_ (Aside0.out ‹_›))⟩
end
section
end
section
end
section
end
section
end
section
end
section
end
section
end
section
end
section
open Go.Proofs.YtmplnpjdbfedbaaGreatDoorW.PrintWords.Aside0 renaming mk → yaa
end
section
end
section
open Go.Proofs.YtmplnpjdbfedbaaGreatDoorW.PrintWords.Aside0 renaming mk → yaa
end
section
open Go.Proofs.YtmplnpjdbfedbaaGreatDoorW.PrintWords.Kd renaming at_int → yaa
end
section
open Go.Proofs.YtmplnpjdbfedbaaGreatDoorW.PrintWords.Aside0 renaming mk → yaa
open Go.Proofs.YtmplnpjdbfedbaaGreatDoorW.PrintWords.Kd renaming R_drew → yab, R_alloc → yac, R_drewN → yad, R_mono → yae, R_reads' → yaf, int → yag, R_elder' → yai
open Go.Proofs.YtmplnpjdbfedbaaGreatDoorW.PrintWords renaming Aside0 → yah
end
section
open Go.Proofs.YtmplnpjdbfedbaaGreatDoorW.PrintWords.Aside0 renaming mk → yaa
end
section
open Go.Proofs.YtmplnpjdbfedbaaGreatDoorW.PrintWords.Aside0 renaming mk → yaa
end
end Go.Proofs.YtmplnpjdbfedbaaGreatDoor.X
