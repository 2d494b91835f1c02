/- Lemmas and contracts for the law FnExactShaMac, part 4: of the program's functions, and over data alone. Conditions: the listed package-level variables begin as the program's text lays them (tied by the card). -/
import Derived.Test.YtfinaphomgdmlaaDoorMFnExactShaMac3
namespace Go.Proofs.YtfinaphomgdmlaaDoor.X
open Go.RowKit Go.Proofs.YtfinaphomgdmlaaDoorW.PrintWords Go.Proofs.YtfinaphomgdmlaaDoorW.PrintLast Go.Proofs.YtfinaphomgdmlaaDoorW.PrintMore
attribute [local go_sem] max2_int min2_int max_two min_two max_three min_three max_four min_four
set_option linter.unusedVariables false
set_option linter.unusedSimpArgs false

section
open Go.Proofs.YtfinaphomgdmlaaDoorW.PrintWords.Aside0 renaming mk → yaa
open Go.Proofs.YtfinaphomgdmlaaDoorW.PrintWords.Kd renaming R_drew → yab, R_alloc → yac, R_drewN → yad, R_mono → yae, R_reads' → yaf, int → yag, R_elder' → yai
open Go.Proofs.YtfinaphomgdmlaaDoorW.PrintWords renaming Aside0 → yah

abbrev q20_0 : Array Bool := Array.replicate 11 false
abbrev q20_1 : Array Bool := #[true, false, false, false, false, false, false, false, false, false, false]
abbrev q20_2 : Array Bool := #[true, true, false, false, false, false, false, false, false, false, false]
abbrev q20_3 : Array Bool := #[true, true, true, false, false, false, false, false, false, false, false]
abbrev q20_4 : Array Bool := #[true, true, true, true, false, false, false, false, false, false, false]
abbrev q20_5 : Array Bool := #[true, true, true, true, false, true, false, false, false, false, false]
abbrev q20_6 : Array Bool := #[true, true, true, true, false, true, true, false, false, false, false]
abbrev q20_7 : Array Bool := #[true, true, true, true, false, true, true, true, false, false, false]
abbrev q20_8 : Array Bool := #[true, true, true, true, true, true, true, true, false, false, false]
abbrev q20_9 : Array Bool := #[true, true, true, true, true, true, true, true, true, false, false]
abbrev q20_10 : Array Bool := #[true, true, true, true, true, true, true, true, true, true, false]
abbrev q20_11 : Array Bool := #[true, true, true, true, true, true, true, true, true, true, true]
abbrev q20_12 : Array Bool := Array.replicate 14 false
abbrev q20_13 : Array Bool := bl_ 14 1
abbrev q20_14 : Array Bool := bl_ 14 3
abbrev q20_15 : Array Bool := bl_ 14 7
abbrev q20_16 : Array Bool := bl_ 14 15
abbrev q20_17 : Array Bool := bl_ 14 31
abbrev q20_18 : Array Bool := bl_ 14 95
abbrev q20_19 : Array Bool := bl_ 14 223
abbrev q20_20 : Array Bool := bl_ 14 479
abbrev q20_21 : Array Bool := bl_ 14 511
abbrev q20_22 : Array Bool := bl_ 14 1023
abbrev q20_23 : Array Bool := bl_ 14 2047
abbrev q20_24 : Array Bool := bl_ 14 4095
abbrev q20_25 : Array Bool := bl_ 14 8191
abbrev q20_26 : Array Bool := bl_ 14 16383
abbrev q20_27 : Array Bool := Array.replicate 27 false
abbrev q20_28 : Array Bool := bl_ 27 1
abbrev q20_29 : Array Bool := bl_ 27 3
abbrev q20_30 : Array Bool := bl_ 27 7
abbrev q20_31 : Array Bool := bl_ 27 15
abbrev q20_32 : Array Bool := bl_ 27 143
abbrev q20_33 : Array Bool := bl_ 27 399
abbrev q20_34 : Array Bool := bl_ 27 911
abbrev q20_35 : Array Bool := bl_ 27 9103
abbrev q20_36 : Array Bool := bl_ 27 25487
abbrev q20_37 : Array Bool := bl_ 27 58255
abbrev q20_38 : Array Bool := bl_ 27 582543
abbrev q20_39 : Array Bool := bl_ 27 1631119
abbrev q20_40 : Array Bool := bl_ 27 3728271
abbrev q20_41 : Array Bool := bl_ 27 3728287
abbrev q20_42 : Array Bool := bl_ 27 3728319
abbrev q20_43 : Array Bool := bl_ 27 3728383
abbrev q20_44 : Array Bool := bl_ 27 3729407
abbrev q20_45 : Array Bool := bl_ 27 3731455
abbrev q20_46 : Array Bool := bl_ 27 3735551
abbrev q20_47 : Array Bool := bl_ 27 3801087
abbrev q20_48 : Array Bool := bl_ 27 3932159
abbrev q20_49 : Array Bool := bl_ 27 4194303
abbrev q20_50 : Array Bool := bl_ 27 8388607
abbrev q20_51 : Array Bool := bl_ 27 16777215
abbrev q20_52 : Array Bool := bl_ 27 33554431
abbrev q20_53 : Array Bool := bl_ 27 67108863
abbrev q20_54 : Array Bool := bl_ 27 134217727
mutual
def spec_l1Sum.l0 : Nat → List Int → List Int → List Int → Int → Option (List Int)
 | 0, _, _, _, _ => none
 | k + 1, x0, x3, x4, x5 => if x5 < 8 then (if 0 ≤ x5 then (if x5 < (x3.length : Int) then ((spec_l1Root.f k (rd x3 x5) 2).bind fun t108 => (if x4.length < 17592186044416 then (spec_l1Sum.l0 k x0 x3 (x4 ++ [t108]) (wrap64 (x5 + 1))) else (none))) else (none)) else (none)) else ((spec_l1Whole.f k x0).bind fun t112 => (spec_l1Sum.l1 k x3 x4 t112 (([] : List Int)) 0))
def spec_l1Sum.l1 : Nat → List Int → List Int → List Int → List Int → Int → Option (List Int)
 | 0, _, _, _, _, _ => none
 | k + 1, x3, x4, x6, x7, x8 => if x8 < 64 then (if 0 ≤ x8 then (if x8 < (x3.length : Int) then ((spec_l1Root.f k (rd x3 x8) 3).bind fun t119 => (if x7.length < 17592186044416 then (spec_l1Sum.l1 k x3 x4 x6 (x7 ++ [t119]) (wrap64 (x8 + 1))) else (none))) else (none)) else (none)) else (spec_l1Sum.l2 k x4 x6 x7 0)
def spec_l1Sum.l2 : Nat → List Int → List Int → List Int → Int → Option (List Int)
 | 0, _, _, _, _ => none
 | k + 1, x4, x6, x7, x9 => if x9 < (x6.length : Int) then (if 0 ≤ x9 then (if x9 ≤ (wrap64 (x9 + 64)) then (if (wrap64 (x9 + 64)) ≤ (x6.length : Int) then ((spec_l1Words.f k ((x6.take ((wrap64 (x9 + 64)) : Int).toNat).drop (x9 : Int).toNat)).bind fun t127 => ((some (([] : List Int) : List Int)).bind fun y130 => (if y130.length + x4.length < 17592186044416 then (spec_l1Sum.l3 k x4 x6 x7 x9 t127 (y130 ++ x4) 0) else (none)))) else (none)) else (none)) else (none)) else (spec_l1Sum.l5 k x4 (([] : List Int)) 0)
def spec_l1Sum.l3 : Nat → List Int → List Int → List Int → Int → List Int → List Int → Int → Option (List Int)
 | 0, _, _, _, _, _, _, _ => none
 | k + 1, x4, x6, x7, x9, x10, x11, x12 => if x12 < 64 then (if 0 ≤ x12 then (if x12 < (x7.length : Int) then (if x12 < (x10.length : Int) then ((spec_l1Step.f x11 (rd x7 x12) (rd x10 x12)).bind fun t138 => (spec_l1Sum.l3 k x4 x6 x7 x9 x10 t138 (wrap64 (x12 + 1)))) else (none)) else (none)) else (none)) else (spec_l1Sum.l4 k x4 x6 x7 x9 x11 0)
def spec_l1Sum.l4 : Nat → List Int → List Int → List Int → Int → List Int → Int → Option (List Int)
 | 0, _, _, _, _, _, _ => none
 | k + 1, x4, x6, x7, x9, x11, x13 => if x13 < 8 then (if 0 ≤ x13 then (if x13 < (x4.length : Int) then (if x13 < (x11.length : Int) then ((spec_l1Word.f (IntKind.u64.wrap ((rd x4 x13) + (rd x11 x13)))).bind fun t143 => (spec_l1Sum.l4 k (x4.set (x13 : Int).toNat t143) x6 x7 x9 x11 (wrap64 (x13 + 1)))) else (none)) else (none)) else (none)) else (spec_l1Sum.l2 k x4 x6 x7 (wrap64 (x9 + 64)))
def spec_l1Sum.l5 : Nat → List Int → List Int → Int → Option (List Int)
 | 0, _, _, _ => none
 | k + 1, x4, x14, x15 => if x15 < 8 then (if 0 ≤ x15 then (if x15 < (x4.length : Int) then ((some (([((rd x4 x15) / 16777216) % 256, ((rd x4 x15) / 65536) % 256, ((rd x4 x15) / 256) % 256, (rd x4 x15) % 256] : List Int) : List Int)).bind fun y152 => (if x14.length + y152.length < 140737488355328 then (spec_l1Sum.l5 k x4 (x14 ++ y152) (wrap64 (x15 + 1))) else (none))) else (none)) else (none)) else (some x14)
end
def spec_l1Sum.f (k : Nat) (l0 : List Int) : Option (List Int) := (spec_l1Primes.f k 64).bind fun t101 => (spec_l1Sum.l0 k l0 t101 (([] : List Int)) 0)
theorem spec_l1Sum.mono_l : ∀ k, (∀ y0 y1 y2 y3, LeO (spec_l1Sum.l0 k y0 y1 y2 y3) (spec_l1Sum.l0 (k + 1) y0 y1 y2 y3)) ∧ (∀ y0 y1 y2 y3 y4, LeO (spec_l1Sum.l1 k y0 y1 y2 y3 y4) (spec_l1Sum.l1 (k + 1) y0 y1 y2 y3 y4)) ∧ (∀ y0 y1 y2 y3, LeO (spec_l1Sum.l2 k y0 y1 y2 y3) (spec_l1Sum.l2 (k + 1) y0 y1 y2 y3)) ∧ (∀ y0 y1 y2 y3 y4 y5 y6, LeO (spec_l1Sum.l3 k y0 y1 y2 y3 y4 y5 y6) (spec_l1Sum.l3 (k + 1) y0 y1 y2 y3 y4 y5 y6)) ∧ (∀ y0 y1 y2 y3 y4 y5, LeO (spec_l1Sum.l4 k y0 y1 y2 y3 y4 y5) (spec_l1Sum.l4 (k + 1) y0 y1 y2 y3 y4 y5)) ∧ (∀ y0 y1 y2, LeO (spec_l1Sum.l5 k y0 y1 y2) (spec_l1Sum.l5 (k + 1) y0 y1 y2))
 | 0 => ⟨fun _ _ _ _ r h => by simp [spec_l1Sum.l0] at h, fun _ _ _ _ _ r h => by simp [spec_l1Sum.l1] at h, fun _ _ _ _ r h => by simp [spec_l1Sum.l2] at h, fun _ _ _ _ _ _ _ r h => by simp [spec_l1Sum.l3] at h, fun _ _ _ _ _ _ r h => by simp [spec_l1Sum.l4] at h, fun _ _ _ r h => by simp [spec_l1Sum.l5] at h⟩
 | k + 1 => by
  obtain ⟨ih0, ih1, ih2, ih3, ih4, ih5⟩ := spec_l1Sum.mono_l k
  refine ⟨?_, ?_, ?_, ?_, ?_, ?_⟩
  ·
   intro y0 y1 y2 y3
   unfold spec_l1Sum.l0
   repeat' first | (with_reducible first | exact ih0 .. | exact ih1 .. | exact ih2 .. | exact ih3 .. | exact ih4 .. | exact ih5 .. | exact spec_l1Primes.mono .. | exact spec_l1Root.mono .. | exact spec_l1Whole.mono .. | exact spec_l1Words.mono .. | exact LeO.refl .. | exact LeO.none .. | refine LeO.ite ?_ ?_ | refine LeO.bind ?_ (fun _ => ?_)) | exact ih0 .. | exact ih1 .. | exact ih2 .. | exact ih3 .. | exact ih4 .. | exact ih5 .. | exact spec_l1Primes.mono .. | exact spec_l1Root.mono .. | exact spec_l1Whole.mono .. | exact spec_l1Words.mono .. | exact LeO.none .. | refine LeO.ite ?_ ?_ | refine LeO.bind ?_ (fun _ => ?_)
  ·
   intro y0 y1 y2 y3 y4
   unfold spec_l1Sum.l1
   repeat' first | (with_reducible first | exact ih0 .. | exact ih1 .. | exact ih2 .. | exact ih3 .. | exact ih4 .. | exact ih5 .. | exact spec_l1Primes.mono .. | exact spec_l1Root.mono .. | exact spec_l1Whole.mono .. | exact spec_l1Words.mono .. | exact LeO.refl .. | exact LeO.none .. | refine LeO.ite ?_ ?_ | refine LeO.bind ?_ (fun _ => ?_)) | exact ih0 .. | exact ih1 .. | exact ih2 .. | exact ih3 .. | exact ih4 .. | exact ih5 .. | exact spec_l1Primes.mono .. | exact spec_l1Root.mono .. | exact spec_l1Whole.mono .. | exact spec_l1Words.mono .. | exact LeO.none .. | refine LeO.ite ?_ ?_ | refine LeO.bind ?_ (fun _ => ?_)
  ·
   intro y0 y1 y2 y3
   unfold spec_l1Sum.l2
   repeat' first | (with_reducible first | exact ih0 .. | exact ih1 .. | exact ih2 .. | exact ih3 .. | exact ih4 .. | exact ih5 .. | exact spec_l1Primes.mono .. | exact spec_l1Root.mono .. | exact spec_l1Whole.mono .. | exact spec_l1Words.mono .. | exact LeO.refl .. | exact LeO.none .. | refine LeO.ite ?_ ?_ | refine LeO.bind ?_ (fun _ => ?_)) | exact ih0 .. | exact ih1 .. | exact ih2 .. | exact ih3 .. | exact ih4 .. | exact ih5 .. | exact spec_l1Primes.mono .. | exact spec_l1Root.mono .. | exact spec_l1Whole.mono .. | exact spec_l1Words.mono .. | exact LeO.none .. | refine LeO.ite ?_ ?_ | refine LeO.bind ?_ (fun _ => ?_)
  ·
   intro y0 y1 y2 y3 y4 y5 y6
   unfold spec_l1Sum.l3
   repeat' first | (with_reducible first | exact ih0 .. | exact ih1 .. | exact ih2 .. | exact ih3 .. | exact ih4 .. | exact ih5 .. | exact spec_l1Primes.mono .. | exact spec_l1Root.mono .. | exact spec_l1Whole.mono .. | exact spec_l1Words.mono .. | exact LeO.refl .. | exact LeO.none .. | refine LeO.ite ?_ ?_ | refine LeO.bind ?_ (fun _ => ?_)) | exact ih0 .. | exact ih1 .. | exact ih2 .. | exact ih3 .. | exact ih4 .. | exact ih5 .. | exact spec_l1Primes.mono .. | exact spec_l1Root.mono .. | exact spec_l1Whole.mono .. | exact spec_l1Words.mono .. | exact LeO.none .. | refine LeO.ite ?_ ?_ | refine LeO.bind ?_ (fun _ => ?_)
  ·
   intro y0 y1 y2 y3 y4 y5
   unfold spec_l1Sum.l4
   repeat' first | (with_reducible first | exact ih0 .. | exact ih1 .. | exact ih2 .. | exact ih3 .. | exact ih4 .. | exact ih5 .. | exact spec_l1Primes.mono .. | exact spec_l1Root.mono .. | exact spec_l1Whole.mono .. | exact spec_l1Words.mono .. | exact LeO.refl .. | exact LeO.none .. | refine LeO.ite ?_ ?_ | refine LeO.bind ?_ (fun _ => ?_)) | exact ih0 .. | exact ih1 .. | exact ih2 .. | exact ih3 .. | exact ih4 .. | exact ih5 .. | exact spec_l1Primes.mono .. | exact spec_l1Root.mono .. | exact spec_l1Whole.mono .. | exact spec_l1Words.mono .. | exact LeO.none .. | refine LeO.ite ?_ ?_ | refine LeO.bind ?_ (fun _ => ?_)
  ·
   intro y0 y1 y2
   unfold spec_l1Sum.l5
   repeat' first | (with_reducible first | exact ih0 .. | exact ih1 .. | exact ih2 .. | exact ih3 .. | exact ih4 .. | exact ih5 .. | exact spec_l1Primes.mono .. | exact spec_l1Root.mono .. | exact spec_l1Whole.mono .. | exact spec_l1Words.mono .. | exact LeO.refl .. | exact LeO.none .. | refine LeO.ite ?_ ?_ | refine LeO.bind ?_ (fun _ => ?_)) | exact ih0 .. | exact ih1 .. | exact ih2 .. | exact ih3 .. | exact ih4 .. | exact ih5 .. | exact spec_l1Primes.mono .. | exact spec_l1Root.mono .. | exact spec_l1Whole.mono .. | exact spec_l1Words.mono .. | exact LeO.none .. | refine LeO.ite ?_ ?_ | refine LeO.bind ?_ (fun _ => ?_)
theorem spec_l1Sum.mono : ∀ a0 k, LeO (spec_l1Sum.f k a0) (spec_l1Sum.f (k + 1) a0) := by
 intro a0 k
 obtain ⟨ih0, ih1, ih2, ih3, ih4, ih5⟩ := spec_l1Sum.mono_l k
 unfold spec_l1Sum.f
 repeat' first | (with_reducible first | exact ih0 .. | exact ih1 .. | exact ih2 .. | exact ih3 .. | exact ih4 .. | exact ih5 .. | exact spec_l1Primes.mono .. | exact spec_l1Root.mono .. | exact spec_l1Whole.mono .. | exact spec_l1Words.mono .. | exact LeO.refl .. | exact LeO.none .. | refine LeO.ite ?_ ?_ | refine LeO.bind ?_ (fun _ => ?_)) | exact ih0 .. | exact ih1 .. | exact ih2 .. | exact ih3 .. | exact ih4 .. | exact ih5 .. | exact spec_l1Primes.mono .. | exact spec_l1Root.mono .. | exact spec_l1Whole.mono .. | exact spec_l1Words.mono .. | exact LeO.none .. | refine LeO.ite ?_ ?_ | refine LeO.bind ?_ (fun _ => ?_)
def spec_l1Sum.T21 : Bool × List (List Nat × List Nat) := (true, [([], []), ([], []), ([], []), ([1, 2], [1, 2]), ([3], [3]), ([], []), ([], []), ([5, 6], [5, 6]), ([7], [7]), ([0, 4, 8], [0, 4, 8]), ([9, 9, 0, 1, 2, 3, 4, 5, 6, 7, 8, 9], [0, 9])])
def spec_l1Sum.B21 : List Nat := [0, 0, 0, 6, 14, 0, 0, 96, 224, 511, 1023]
theorem spec_l1Sum.tab21 : rtab .any (opsOf Tryd.f20 21) = spec_l1Sum.T21 := by kernel_rfl
theorem spec_l1Sum.bits21 : waitsOk spec_l1Sum.T21.2 spec_l1Sum.B21 = true := by kernel_rfl
def spec_l1Sum.T25 : Bool × List (List Nat × List Nat) := (true, [([], []), ([], []), ([], []), ([], []), ([2, 3], [2, 3]), ([4], [4]), ([], []), ([], []), ([6, 7], [6, 7]), ([8], [8]), ([5, 9], [5, 9]), ([10], [10]), ([0, 1, 0, 1, 2, 3, 4, 5, 6, 7, 8, 9, 10, 11], [0, 1]), ([12, 11, 11, 0, 1, 2, 3, 4, 5, 6, 7, 8, 9, 10, 11], [11, 12])])
def spec_l1Sum.B25 : List Nat := [0, 0, 0, 0, 12, 28, 0, 0, 192, 448, 1020, 2044, 4095, 8191]
theorem spec_l1Sum.tab25 : rtab .any (opsOf Tryd.f20 25) = spec_l1Sum.T25 := by kernel_rfl
theorem spec_l1Sum.bits25 : waitsOk spec_l1Sum.T25.2 spec_l1Sum.B25 = true := by kernel_rfl
def spec_l1Sum.T30 : Bool × List (List Nat × List Nat) := (true, [([], []), ([], []), ([], []), ([1, 2], [1, 2]), ([3], [3]), ([4], [4]), ([5], [5]), ([], []), ([], []), ([7, 8], [7, 8]), ([9], [9]), ([10], [10]), ([11], [11]), ([], []), ([], []), ([13, 14], [13, 14]), ([15], [15]), ([16], [16]), ([17], [17]), ([], []), ([], []), ([19, 20], [19, 20]), ([21], [21]), ([22], [22]), ([6, 12, 18, 23], [6, 12, 18, 23]), ([0, 24], [0, 24]), ([25, 25, 0, 1, 2, 3, 4, 5, 6, 7, 8, 9, 10, 11, 12, 13, 14, 15, 16, 17, 18, 19, 20, 21, 22, 23, 24, 25], [0, 25])])
def spec_l1Sum.B30 : List Nat := [0, 0, 0, 6, 14, 30, 62, 0, 0, 384, 896, 1920, 3968, 0, 0, 24576, 57344, 122880, 253952, 0, 0, 1572864, 3670016, 7864320, 16777214, 33554431, 67108863]
theorem spec_l1Sum.tab30 : rtab .any (opsOf Tryd.f20 30) = spec_l1Sum.T30 := by kernel_rfl
theorem spec_l1Sum.bits30 : waitsOk spec_l1Sum.T30.2 spec_l1Sum.B30 = true := by kernel_rfl
set_option maxHeartbeats 8000000 in
set_option maxRecDepth 100000 in
theorem spec_l1Sum.calls (k : Nat) (A0 : Option Addr) (c0 : Nat) (l0 : List Int) (r : List Int) (w : World) (hr0 : Kd.C (yag .u8) w A0 l0.length l0) (hc0 : l0.length ≤ c0) (h : spec_l1Sum.f k l0 = some r) :
  Calls Tryd.prog 20 #[.slice A0 l0.length c0] w fun e w' => ∃ v0_ : Value, e = .returned (v0_) ∧ Kd.R (yag .u8) 5 w' w.heap.size (fun _ => True) v0_ r ∧ Below w.heap.size w w' := by
 have HR0 := yaa hr0; have HC0 := yaa hc0; clear hr0 hc0; have HB := yaa (Below.refl w.heap.size w); have H : ((spec_l1Primes.f k 64).bind fun b1 => (spec_l1Sum.l0 k l0 b1 (([] : List Int)) 0)) = some r := h; clear h; obtain ⟨b1, A2, H⟩ := bindA H; (try dsimp only at H); obtain ⟨y104, hy104⟩ : ∃ y_ : List Int, y_ = (([] : List Int)) := ⟨_, rfl⟩
 replace H : (spec_l1Sum.l0 k l0 b1 y104 0) = some r := by first | (rw [hy104]; with_reducible exact H) | (have H2_ := (Option.bind_some _ _).symm.trans H; rw [hy104]; with_reducible exact H2_) | (have H2_ := (Option.bind_some _ _).symm.trans H; with_reducible exact H2_) | with_reducible exact H | (rw [hy104]; exact H) | exact H
 have Ny104 := yaa hy104; clear hy104; have H' := yaa H; clear H
 go_enter Tryd.func20, Tryd.ntmps20
 go_wp2_with (first | ((with_reducible refine gc_ 26 rfl ?_); refine gl_ (some 16) rfl Tryd.func26 #[.int .i64 64] ?_; (with_reducible refine (spec_l1Primes.calls k 64 b1 _ A2.out).mono ?_); rintro e w3 ⟨g0, rfl, ho0, hb⟩; refine ⟨_, rfl, ?_⟩; have e8 := yaa (Kd.R_lower ho0 (below_size (upH HB.out))); replace HB := yaa (below_step (upH HB.out) hb); (try clear hb ho0)) | ((with_reducible refine gd_ 17 rfl ?_); refine Kd.R_lit (yag .u64) _ 40 ?hg (N := 17) ?hd (xs := ([] : List Int)) (inner := []) (ok := fun _ => True) (okp := fun _ => True) ?hr ?hp (fun _ hk => hk) trivial (Below.refl _ _) (Nat.le_refl _) (by simp) ?_; (case hd => rfl); (case hg => rfl); (case hr => first | (go_simp; done) | (go_simp; rfl)); (case hp => exact (Reps.none _ _)); intro n8 w4 ho5 hb hg_ hnew_; clear hg_ hnew_; (first | rw [← Ny104.out] at ho5 | (simp only [Int.reduceToNat] at ho5; rw [← Ny104.out] at ho5)); have i2 := yaa (Kd.R_lower (Kd.R_new' ho5 (Kd.R_lt (upR e8.out))) (below_size (upH HB.out))); replace e8 := yaa (yai (upR e8.out) (Kd.R_base ho5) hb); replace HB := yaa (below_step (upH HB.out) hb); clear hb ho5))
 (try simp only [Act.put, List.setIfInBounds_toArray, List.set_cons_zero, List.set_cons_succ])
 go_loopg [4, 5] k (fun kq v4 v5 w' => ∃ (d4 : List Int) (b6 : Int), v5 = .int .i64 b6 ∧ yah (spec_l1Sum.l0 kq l0 b1 d4 b6 = some r) ∧ yah (kq ≤ k) ∧ yah (Kd.R (yag .u64) 40 w' w.heap.size (fun k_ => some k_ ≠ (v4 : Value).ownBlock) g0 b1) ∧ yah (Kd.R (yag .u64) 40 w' w.heap.size (fun k_ => some k_ ≠ (g0 : Value).ownBlock) v4 d4) ∧ yah (Below w.heap.size w w'))
 case atStart => exact ⟨(y104), (0), (by first | rfl | (simp; done) | (simp [*]; done)), H', ⟨Nat.le_refl _⟩, ⟨by (with_reducible repeat (first | apply yac | apply yad | apply yab)); exact yae e8.out (fun _ hk => by first | exact hk.2 | exact True.intro)⟩, ⟨by (with_reducible repeat (first | apply yac | apply yad | apply yab)); exact yae i2.out (fun _ hk => by first | exact hk.2 | exact True.intro)⟩, ⟨upH HB.out⟩⟩
 case round =>
  clear H'; (try clear c2); (try clear p2); obtain ⟨d4, b6, rfl, HA, HK1, b2, a2, HB⟩ := hrel
  cases gk with
  | zero => exact absurd HA.out (by simp [spec_l1Sum.l0])
  | succ k1 =>
   have H := HA.out; clear HA
   simp only [spec_l1Sum.l0] at H
   by_cases c6 : b6 < 8
   ·
    rw [if_pos c6] at H
    have f5 : decide (b6 < 8) = true := decide_eq_true c6; clear c6
    by_cases c7 : 0 ≤ b6
    ·
     rw [if_pos c7] at H
     replace c7 := decide_eq_true c7
     by_cases c8 : b6 < (b1.length : Int)
     ·
      rw [if_pos c8] at H
      replace c8 := decide_eq_true c8; obtain ⟨g9, A9, H⟩ := bindA H; (try dsimp only at H)
      by_cases c10 : d4.length < 17592186044416
      ·
       rw [if_pos c10] at H
       have LMc10 := yaa c10; clear c10; obtain ⟨y109, hy109⟩ : ∃ y_ : List Int, y_ = (d4 ++ [g9]) := ⟨_, rfl⟩
       replace H : (spec_l1Sum.l0 k1 l0 b1 y109 (wrap64 (b6 + 1))) = some r := by first | (rw [hy109]; with_reducible exact H) | (have H2_ := (Option.bind_some _ _).symm.trans H; rw [hy109]; with_reducible exact H2_) | (have H2_ := (Option.bind_some _ _).symm.trans H; with_reducible exact H2_) | with_reducible exact H | (rw [hy109]; exact H) | exact H
       have Ny109 := yaa hy109; clear hy109; have H' := yaa H; clear H; obtain ⟨n9, k7, k8⟩ := Kd.R_slice b2.out; subst k8; have p107 : 0 ≤ (b6 : Int) := of_decide_eq_true (by assumption); have q107 : b6 < (b1.length : Int) := of_decide_eq_true (by assumption); obtain ⟨ad107, k9, b8⟩ := Kd.at_int (yaf b2.out).2.2 b6 p107 q107
       cases k9
       replace p107 := eq_true p107; replace q107 := eq_true q107
       go_wp2_with (first | ((with_reducible refine gc_ 27 rfl ?_); refine gl_ (some 27) rfl Tryd.func27 #[.int .u64 (rd b1 b6), .int .i64 2] ?_; (with_reducible refine (spec_l1Root.calls k1 (rd b1 b6) 2 g9 _ A9.out).mono ?_); rintro e w' ⟨rfl, ⟨nd, rfl⟩⟩; refine ⟨_, rfl, ?_⟩) | ((with_reducible refine gate_builtin (b := .append) (xs := #[.tmp 22, .tmp 28]) rfl ?_); at_builtin; refine Kd.R_append (yag .u64) (w0 := w) w.heap.size rfl (.tmp 22) (.tmp 28) 38 40 (.int .u64 0) 8 rfl Tryd.underlying38 info40 rfl (by decide) (by omega) u4 d4 g9 [.int .u64 g9] (fun k_ => some k_ ≠ (.slice (some ad107) b1.length k7 : Value).ownBlock) (fun _ => False) rfl rfl ?aP (fun _ hk => hk.elim) ?aF ?aO ?aB ?aS ?aL ?_; (case aP => exact rfl); (case aB => exact (upH HB.out)); (case aF => exact (fun k_ hk => Kd.fresh' (Kd.R_lt (upR b2.out)) k_ hk)); (case aO => exact (upR a2.out)); (case aS => exact (below_size (upH HB.out))); (case aL => have := LMc10.out; omega); intro o0 w12 ho hb hg hat; rw [← Ny109.out] at ho; replace b2 := yaa (Kd.R_after (ok := (fun _ => True)) (by (with_reducible repeat (first | apply yac | apply yad | apply yab)); exact yae b2.out (fun _ hk => ⟨trivial, hk⟩)) hg hat); replace HB := yaa (hb); have h4 := yaa (ho); clear a2; clear ho hb hg hat))
       go_roundg k1
       case measure => have := HK1.out; omega
       case rel => exact ⟨(y109), (wrap64 (b6 + 1)), (by first | rfl | (simp; done) | (simp [*]; done)), H', ⟨by have := HK1.out; omega⟩, ⟨by (with_reducible repeat (first | apply yac | apply yad | apply yab)); exact yae b2.out (fun _ hk => by first | exact hk.2 | exact True.intro)⟩, ⟨by first | exact h4.out | exact upR h4.out⟩, ⟨upH HB.out⟩⟩
      ·
       rw [if_neg c10] at H
       exact absurd H (by simp)
     ·
      rw [if_neg c8] at H
      exact absurd H (by simp)
    ·
     rw [if_neg c7] at H
     exact absurd H (by simp)
   ·
    rw [if_neg c6] at H
    have f5 : decide (b6 < 8) = false := decide_eq_false c6; clear c6; obtain ⟨a9, A13, H⟩ := bindA H; (try dsimp only at H); obtain ⟨y115, hy115⟩ : ∃ y_ : List Int, y_ = (([] : List Int)) := ⟨_, rfl⟩
    replace H : (spec_l1Sum.l1 k1 b1 d4 a9 y115 0) = some r := by first | (rw [hy115]; with_reducible exact H) | (have H2_ := (Option.bind_some _ _).symm.trans H; rw [hy115]; with_reducible exact H2_) | (have H2_ := (Option.bind_some _ _).symm.trans H; with_reducible exact H2_) | with_reducible exact H | (rw [hy115]; exact H) | exact H
    have Ny115 := yaa hy115; clear hy115; have H' := yaa H; clear H
    go_wp2_with (first | ((with_reducible refine gc_ 28 rfl ?_); refine gl_ (some 31) rfl Tryd.func28 #[.slice A0 l0.length c0] ?_; (with_reducible refine (spec_l1Whole.calls k1 _ _ l0 a9 _ ?side1 ?side2 A13.out).mono ?_); (case side1 => repeat (first | exact (Kd.C_below HR0.out HB.out) | (with_reducible refine Kd.C_alloc ?_ _) | (with_reducible refine Kd.C_drewN ?_ _) | (with_reducible refine Kd.C_drew ?_))); (case side2 => exact HC0.out); rintro e w14 ⟨i3, rfl, ho0, hb⟩; refine ⟨_, rfl, ?_⟩; replace b2 := yaa (Kd.R_below (upR b2.out) hb); replace a2 := yaa (Kd.R_below (upR a2.out) hb); have e9 := yaa (Kd.R_lower ho0 (below_size (upH HB.out))); replace HB := yaa (below_step (upH HB.out) hb); (try clear hb ho0)) | ((with_reducible refine gd_ 32 rfl ?_); refine Kd.R_lit (yag .u64) _ 40 ?hg (N := 32) ?hd (xs := ([] : List Int)) (inner := []) (ok := fun _ => True) (okp := fun _ => True) ?hr ?hp (fun _ hk => hk) trivial (Below.refl _ _) (Nat.le_refl _) (by simp) ?_; (case hd => rfl); (case hg => rfl); (case hr => first | (go_simp; done) | (go_simp; rfl)); (case hp => exact (Reps.none _ _)); intro o1 w15 e6 hb hg_ hnew_; clear hg_ hnew_; (first | rw [← Ny115.out] at e6 | (simp only [Int.reduceToNat] at e6; rw [← Ny115.out] at e6)); replace e9 := yaa (Kd.R_below (upR e9.out) hb); have i4 := yaa (Kd.R_lower (Kd.R_new' (Kd.R_new' e6 (Kd.R_lt (upR b2.out))) (Kd.R_lt (upR a2.out))) (below_size (upH HB.out))); replace b2 := yaa (yai (upR b2.out) (Kd.R_base e6) hb); replace a2 := yaa (yai (upR a2.out) (Kd.R_base e6) hb); replace HB := yaa (below_step (upH HB.out) hb); clear hb e6))
    (try simp only [Act.put, List.setIfInBounds_toArray, List.set_cons_zero, List.set_cons_succ])
    go_loopg [7, 8] k1 (fun kq v7 v8 w' => ∃ (b4 : List Int) (b7 : Int), v8 = .int .i64 b7 ∧ yah (spec_l1Sum.l1 kq b1 d4 a9 b4 b7 = some r) ∧ yah (kq ≤ k1) ∧ yah (Kd.R (yag .u64) 40 w' w.heap.size (fun k_ => some k_ ≠ (u4 : Value).ownBlock ∧ some k_ ≠ (v7 : Value).ownBlock) g0 b1) ∧ yah (Kd.R (yag .u64) 40 w' w.heap.size (fun k_ => some k_ ≠ (g0 : Value).ownBlock ∧ some k_ ≠ (v7 : Value).ownBlock) u4 d4) ∧ yah (Kd.R (yag .u8) 5 w' w.heap.size (fun _ => True) i3 a9) ∧ yah (Kd.R (yag .u64) 40 w' w.heap.size (fun k_ => some k_ ≠ (g0 : Value).ownBlock ∧ some k_ ≠ (u4 : Value).ownBlock) v7 b4) ∧ yah (Below w.heap.size w w'))
    case atStart => exact ⟨(y115), (0), (by first | rfl | (simp; done) | (simp [*]; done)), H', ⟨Nat.le_refl _⟩, ⟨by first | exact b2.out | exact upR b2.out⟩, ⟨by first | exact a2.out | exact upR a2.out⟩, ⟨by first | exact e9.out | exact upR e9.out⟩, ⟨by (with_reducible repeat (first | apply yac | apply yad | apply yab)); exact yae i4.out (fun _ hk => ⟨hk.1.2, hk.2⟩)⟩, ⟨upH HB.out⟩⟩
    case round =>
     clear H'; (try clear c1); (try clear p1); (try clear q1); (try clear hx1); (try clear c2); (try clear p2); (try clear c6); (try clear f5); (try clear p6); (try clear c7); (try clear c7b0); (try clear c8); (try clear c8b0); (try clear c10); (try clear p10); (try clear q10); (try clear hx10); (try clear b8); (try clear p107); (try clear p2); (try clear q107); obtain ⟨b4, b7, rfl, HA, HK2, b2, a2, a5, a8, HB⟩ := hrel
     cases gk with
     | zero => exact absurd HA.out (by simp [spec_l1Sum.l1])
     | succ k2 =>
      have H := HA.out; clear HA
      simp only [spec_l1Sum.l1] at H
      by_cases c17 : b7 < 64
      ·
       rw [if_pos c17] at H
       have e1 : decide (b7 < 64) = true := decide_eq_true c17; clear c17
       by_cases c18 : 0 ≤ b7
       ·
        rw [if_pos c18] at H
        replace c18 := decide_eq_true c18
        by_cases c19 : b7 < (b1.length : Int)
        ·
         rw [if_pos c19] at H
         replace c19 := decide_eq_true c19; obtain ⟨h3, A20, H⟩ := bindA H; (try dsimp only at H)
         by_cases c21 : b4.length < 17592186044416
         ·
          rw [if_pos c21] at H
          have LMc21 := yaa c21; clear c21; obtain ⟨y120, hy120⟩ : ∃ y_ : List Int, y_ = (b4 ++ [h3]) := ⟨_, rfl⟩
          replace H : (spec_l1Sum.l1 k2 b1 d4 a9 y120 (wrap64 (b7 + 1))) = some r := by first | (rw [hy120]; with_reducible exact H) | (have H2_ := (Option.bind_some _ _).symm.trans H; rw [hy120]; with_reducible exact H2_) | (have H2_ := (Option.bind_some _ _).symm.trans H; with_reducible exact H2_) | with_reducible exact H | (rw [hy120]; exact H) | exact H
          have Ny120 := yaa hy120; clear hy120; have H' := yaa H; clear H; obtain ⟨o2, i5, l6⟩ := Kd.R_slice b2.out; subst l6; have p118 : 0 ≤ (b7 : Int) := of_decide_eq_true (by assumption); have q118 : b7 < (b1.length : Int) := of_decide_eq_true (by assumption); obtain ⟨ad118, l7, d0⟩ := Kd.at_int (yaf b2.out).2.2 b7 p118 q118
          cases l7
          replace p118 := eq_true p118; replace q118 := eq_true q118
          go_wp2_with (first | ((with_reducible refine gc_ 27 rfl ?_); refine gl_ (some 42) rfl Tryd.func27 #[.int .u64 (rd b1 b7), .int .i64 3] ?_; (with_reducible refine (spec_l1Root.calls k2 (rd b1 b7) 3 h3 _ A20.out).mono ?_); rintro e w' ⟨rfl, ⟨nd, rfl⟩⟩; refine ⟨_, rfl, ?_⟩) | ((with_reducible refine gate_builtin (b := .append) (xs := #[.tmp 37, .tmp 43]) rfl ?_); at_builtin; refine Kd.R_append (yag .u64) (w0 := w) w.heap.size rfl (.tmp 37) (.tmp 43) 38 40 (.int .u64 0) 8 rfl Tryd.underlying38 info40 rfl (by decide) (by omega) u7 b4 h3 [.int .u64 h3] (fun k_ => some k_ ≠ (.slice (some ad118) b1.length i5 : Value).ownBlock ∧ some k_ ≠ (u4 : Value).ownBlock) (fun _ => False) rfl rfl ?aP (fun _ hk => hk.elim) ?aF ?aO ?aB ?aS ?aL ?_; (case aP => exact rfl); (case aB => exact (upH HB.out)); (case aF => exact (fun k_ hk => ⟨Kd.fresh' (Kd.R_lt (upR b2.out)) k_ hk, Kd.fresh' (Kd.R_lt (upR a2.out)) k_ hk⟩)); (case aO => exact (upR a8.out)); (case aS => exact (below_size (upH HB.out))); (case aL => have := LMc21.out; omega); intro o3 w23 ho hb hg hat; rw [← Ny120.out] at ho; replace b2 := yaa (Kd.R_after (ok := (fun k_ => some k_ ≠ (u4 : Value).ownBlock)) (upR b2.out) hg hat); replace a2 := yaa (Kd.R_after (ok := (fun k_ => some k_ ≠ (.slice (some ad118) b1.length i5 : Value).ownBlock)) (upR a2.out) hg hat); replace a5 := yaa (Kd.R_over' (upR a5.out) (Kd.R_typed (upR a8.out)) (by decide) hg); replace HB := yaa (hb); have h5 := yaa (ho); clear a8; clear ho hb hg hat))
          go_roundg k2
          case measure => have := HK1.out; have := HK2.out; omega
          case rel => exact ⟨(y120), (wrap64 (b7 + 1)), (by first | rfl | (simp; done) | (simp [*]; done)), H', ⟨by have := HK1.out; have := HK2.out; omega⟩, ⟨by first | exact b2.out | exact upR b2.out⟩, ⟨by first | exact a2.out | exact upR a2.out⟩, ⟨by first | exact a5.out | exact upR a5.out⟩, ⟨by first | exact h5.out | exact upR h5.out⟩, ⟨upH HB.out⟩⟩
         ·
          rw [if_neg c21] at H
          exact absurd H (by simp)
        ·
         rw [if_neg c19] at H
         exact absurd H (by simp)
       ·
        rw [if_neg c18] at H
        exact absurd H (by simp)
      ·
       rw [if_neg c17] at H
       have e1 : decide (b7 < 64) = false := decide_eq_false c17; clear c17; have H' := yaa H; clear H
       go_wp2
       (try simp only [Act.put, List.setIfInBounds_toArray, List.set_cons_zero, List.set_cons_succ])
       go_loopg [9] k2 (fun kq v9 w' => ∃ (a3 : List Int) (a6 : Int), v9 = .int .i64 a6 ∧ yah (spec_l1Sum.l2 kq a3 a9 b4 a6 = some r) ∧ yah (kq ≤ k2) ∧ yah (Kd.R (yag .u64) 40 w' w.heap.size (fun k_ => some k_ ≠ (u7 : Value).ownBlock) u4 a3) ∧ yah (Kd.R (yag .u8) 5 w' w.heap.size (fun _ => True) i3 a9) ∧ yah (Kd.R (yag .u64) 40 w' w.heap.size (fun k_ => some k_ ≠ (u4 : Value).ownBlock) u7 b4) ∧ yah (Below w.heap.size w w'))
       case atStart => exact ⟨(d4), (0), (by first | rfl | (simp; done) | (simp [*]; done)), H', ⟨Nat.le_refl _⟩, ⟨by (with_reducible repeat (first | apply yac | apply yad | apply yab)); exact yae a2.out (fun _ hk => by first | exact hk.2 | exact True.intro)⟩, ⟨by first | exact a5.out | exact upR a5.out⟩, ⟨by (with_reducible repeat (first | apply yac | apply yad | apply yab)); exact yae a8.out (fun _ hk => by first | exact hk.2 | exact True.intro)⟩, ⟨upH HB.out⟩⟩
       case round =>
        clear H'; (try clear c1); (try clear p1); (try clear q1); (try clear hx1); (try clear c2); (try clear p2); (try clear c6); (try clear f5); (try clear p6); (try clear c7); (try clear c7b0); (try clear c8); (try clear c8b0); (try clear c10); (try clear p10); (try clear q10); (try clear hx10); (try clear p11); (try clear q11); (try clear hx11); (try clear c17); (try clear e1); (try clear c18); (try clear c18b0); (try clear c19); (try clear c19b0); (try clear c20); (try clear c21); (try clear b8); (try clear d0); (try clear p1); (try clear p10); (try clear p107); (try clear p118); (try clear p2); (try clear p6); (try clear q1); (try clear q10); (try clear q107); (try clear q118); obtain ⟨a3, a6, rfl, HA, HK3, a2, a5, a8, HB⟩ := hrel
        cases gk with
        | zero => exact absurd HA.out (by simp [spec_l1Sum.l2])
        | succ k3 =>
         have H := HA.out; clear HA
         simp only [spec_l1Sum.l2] at H
         by_cases c24 : a6 < (a9.length : Int)
         ·
          rw [if_pos c24] at H
          have f0 : decide (a6 < (a9.length : Int)) = true := decide_eq_true c24; clear c24
          by_cases c25 : 0 ≤ a6
          ·
           rw [if_pos c25] at H
           have g3 := eq_true c25; replace c25 := decide_eq_true c25
           by_cases c26 : a6 ≤ (wrap64 (a6 + 64))
           ·
            rw [if_pos c26] at H
            have g4 := eq_true c26; have g5 : decide (a6 ≤ (wrap64 (a6 + 64))) = true := decide_eq_true c26
            by_cases c27 : (wrap64 (a6 + 64)) ≤ (a9.length : Int)
            ·
             rw [if_pos c27] at H
             have g6 := eq_true c27; have g7 : decide ((wrap64 (a6 + 64)) ≤ (a9.length : Int)) = true := decide_eq_true c27; obtain ⟨y123, hy123⟩ : ∃ y_ : List Int, y_ = ((a9.take ((wrap64 (a6 + 64)) : Int).toNat).drop (a6 : Int).toNat) := ⟨_, rfl⟩
             conv at H => enter [1, 1, 2]; rw [← hy123]
             have Ny123 := yaa hy123; clear hy123; obtain ⟨d9, A28, H⟩ := bindA H; (try dsimp only at H); obtain ⟨y130, hy130, H⟩ := bindY H; (try dsimp only at H); have Ny130 := yaa hy130; clear hy130
             by_cases c29 : y130.length + a3.length < 17592186044416
             ·
              rw [if_pos c29] at H
              have LMc29 := yaa c29; clear c29; obtain ⟨y133, hy133⟩ : ∃ y_ : List Int, y_ = (y130 ++ a3) := ⟨_, rfl⟩
              replace H : (spec_l1Sum.l3 k3 a3 a9 b4 a6 d9 y133 0) = some r := by first | (rw [hy133]; with_reducible exact H) | (have H2_ := (Option.bind_some _ _).symm.trans H; rw [hy133]; with_reducible exact H2_) | (have H2_ := (Option.bind_some _ _).symm.trans H; with_reducible exact H2_) | with_reducible exact H | (rw [hy133]; exact H) | exact H
              have Ny133 := yaa hy133; clear hy133; have H' := yaa H; clear H; obtain ⟨f6, e2, l8⟩ := Kd.R_slice a5.out; subst l8; have q31 : ((wrap64 (a6 + 64)) : Int) ≤ ((a9.length : Int) : Int) := of_decide_eq_true (by assumption); obtain ⟨i031, hi031, _, h6, _⟩ := info_parts info5; have hroom31 : a9.length ≤ e2 := (yaf a5.out).2.1; have hC31 : Kd.C (yag .u8) _ f6 a9.length a9 := (yaf a5.out).2.2; have ql31 : (a6 : Int) ≤ ((wrap64 (a6 + 64)) : Int) := of_decide_eq_true (by assumption); have q031 : (0 : Int) ≤ (a6 : Int) := of_decide_eq_true (by assumption); have hcut31 := cut_mid (P := Tryd.prog) 22 5 .i64 .i64 Tryd.underlying22 hi031 1 h6 f6 a9.length e2 a6 (wrap64 (a6 + 64)) q031 ql31 q31 hroom31; have hr31 := Kd.C_mid (lo := (a6 : Int).toNat) (hi := ((wrap64 (a6 + 64)) : Int).toNat) (c := e2) hC31 (by omega) (by omega) hroom31
              obtain ⟨A31, hA31⟩ : ∃ A1, A1 = (if e2 = (a6 : Int).toNat then f6 else (f6 : Option Addr).map (·.add ((a6 : Int).toNat * 1))) := ⟨_, rfl⟩
              obtain ⟨c31, hc31⟩ : ∃ c1, c1 = e2 - (a6 : Int).toNat := ⟨_, rfl⟩; have hy31 : y123.length = ((wrap64 (a6 + 64)) : Int).toNat - (a6 : Int).toNat := (by rw [Ny123.out, List.length_drop, List.length_take] <;> omega)
              rw [show ((a9).take ((wrap64 (a6 + 64)) : Int).toNat).drop (a6 : Int).toNat = y123 from Ny123.out.symm] at hr31
              replace hr31 : Kd.C (yag .u8) _ A31 y123.length y123 := (by rw [hA31]; exact hr31)
              rw [← hy31, ← hA31, ← hc31] at hcut31
              have HR126 := yaa hr31; have HC126 := yaa (show y123.length ≤ c31 from by rw [hy31, hc31]; exact Nat.sub_le_sub_right (Nat.le_trans (by omega) hroom31) _); clear hr31 hC31 hroom31 hi031 h6 hc31; have KY31 := yaa hy31; have KA31 := yaa hA31; clear hy31 hA31; have KL31 := yaa (show ((wrap64 (a6 + 64)) : Int).toNat ≤ a9.length from by omega); have KM31 := yaa (show (a6 : Int).toNat ≤ ((wrap64 (a6 + 64)) : Int).toNat from by omega); replace q31 := eq_true q31
              go_wp2_with (first | ((with_reducible refine gc_ 29 rfl ?_); refine gl_ (some 56) rfl Tryd.func29 #[.slice A31 y123.length c31] ?_; (with_reducible refine (spec_l1Words.calls k3 _ _ y123 d9 _ ?side1 ?side2 A28.out).mono ?_); (case side1 => repeat (first | exact (by repeat (first | (with_reducible exact HR126.out) | (with_reducible refine Kd.C_alloc ?_ _) | (with_reducible refine Kd.C_drewN ?_ _) | (with_reducible refine Kd.C_drew ?_) | exact HR126.out)) | (with_reducible refine Kd.C_alloc ?_ _) | (with_reducible refine Kd.C_drewN ?_ _) | (with_reducible refine Kd.C_drew ?_))); (case side2 => exact HC126.out); rintro e w32 ⟨e7, rfl, ho0, hb⟩; refine ⟨_, rfl, ?_⟩; replace a5 := yaa (Kd.R_below (upR a5.out) hb); have d5 := yaa (Kd.R_lower (Kd.R_new' (Kd.R_new' ho0 (Kd.R_lt (upR a2.out))) (Kd.R_lt (upR a8.out))) (below_size (upH HB.out))); replace a2 := yaa (yai (upR a2.out) (Kd.R_base ho0) hb); replace a8 := yaa (yai (upR a8.out) (Kd.R_base ho0) hb); replace HR126 := yaa (Kd.C_below (by repeat (first | (with_reducible exact HR126.out) | (with_reducible refine Kd.C_alloc ?_ _) | (with_reducible refine Kd.C_drewN ?_ _) | (with_reducible refine Kd.C_drew ?_) | exact HR126.out)) hb); replace HB := yaa (below_step (upH HB.out) hb); (try clear hb ho0)) | ((with_reducible refine gd_ 57 rfl ?_); refine Kd.R_lit (yag .u64) _ 40 ?hg (N := 57) ?hd (xs := ([] : List Int)) (inner := []) (ok := fun _ => True) (okp := fun _ => True) ?hr ?hp (fun _ hk => hk) trivial (Below.refl _ _) (Nat.le_refl _) (by simp) ?_; (case hd => rfl); (case hg => rfl); (case hr => first | (go_simp; done) | (go_simp; rfl)); (case hp => exact (Reps.none _ _)); intro l9 w33 e3 hb hg_ hnew_; clear hg_ hnew_; (first | rw [← Ny130.out] at e3 | (simp only [Int.reduceToNat] at e3; rw [← Ny130.out] at e3)); replace a5 := yaa (Kd.R_below (upR a5.out) hb); have e4 := yaa (Kd.R_lower (Kd.R_new' (Kd.R_new' (Kd.R_new' e3 (Kd.R_lt (upR a2.out))) (Kd.R_lt (upR a8.out))) (Kd.R_lt (upR d5.out))) (below_size (upH HB.out))); replace a2 := yaa (yai (upR a2.out) (Kd.R_base e3) hb); replace a8 := yaa (yai (upR a8.out) (Kd.R_base e3) hb); replace d5 := yaa (yai (upR d5.out) (Kd.R_base e3) hb); replace HR126 := yaa (Kd.C_below (by repeat (first | (with_reducible exact HR126.out) | (with_reducible refine Kd.C_alloc ?_ _) | (with_reducible refine Kd.C_drewN ?_ _) | (with_reducible refine Kd.C_drew ?_) | exact HR126.out)) hb); replace HB := yaa (below_step (upH HB.out) hb); clear hb e3; obtain ⟨d7, d8, m0⟩ := Kd.R_slice a2.out; subst m0) | ((with_reducible refine gate_builtin (b := .append) (xs := #[.tmp 57, .tmp 58]) rfl ?_); at_builtin; refine Kd.R_append_rows (yag .u64) (w0 := w) w.heap.size rfl (.tmp 57) (.tmp 58) 38 40 (.int .u64 0) 8 rfl Tryd.underlying38 info40 rfl (by decide) (by omega) l9 y130 a3 _ _ _ (fun k_ => some k_ ≠ (.slice d7 a3.length d8 : Value).ownBlock ∧ some k_ ≠ (u7 : Value).ownBlock ∧ some k_ ≠ (e7 : Value).ownBlock) (fun _ => False) rfl rfl ?aO ?aR (fun _ _ h => h) (fun _ h => h.elim) ?aF ?aB ?aS ?aL ?_; (case aR => repeat (first | exact (yaf a2.out).2.2 | (with_reducible refine Kd.C_alloc ?_ _) | (with_reducible refine Kd.C_drewN ?_ _) | (with_reducible refine Kd.C_drew ?_))); (case aB => exact (upH HB.out)); (case aF => exact (fun k_ hk => ⟨Kd.fresh' (Kd.R_lt (upR a2.out)) k_ hk, Kd.fresh' (Kd.R_lt (upR a8.out)) k_ hk, Kd.fresh' (Kd.R_lt (upR d5.out)) k_ hk⟩)); (case aO => exact (by (with_reducible repeat (first | apply yac | apply yad | apply yab)); exact yae e4.out (fun _ hk => ⟨hk.1.1.2, ⟨hk.1.2, hk.2⟩⟩))); (case aS => exact (below_size (upH HB.out))); (case aL => have := LMc29.out; omega); intro o4 w35 ho hb hg hat; rw [← Ny133.out] at ho; replace a2 := yaa (Kd.R_after (ok := (fun k_ => some k_ ≠ (u7 : Value).ownBlock ∧ some k_ ≠ (e7 : Value).ownBlock)) (upR a2.out) hg hat); replace a8 := yaa (Kd.R_after (ok := (fun k_ => some k_ ≠ (.slice d7 a3.length d8 : Value).ownBlock ∧ some k_ ≠ (e7 : Value).ownBlock)) (upR a8.out) hg hat); replace d5 := yaa (Kd.R_after (ok := (fun k_ => some k_ ≠ (.slice d7 a3.length d8 : Value).ownBlock ∧ some k_ ≠ (u7 : Value).ownBlock)) (by (with_reducible repeat (first | apply yac | apply yad | apply yab)); exact yae d5.out (fun _ hk => ⟨⟨hk.1.1.2, hk.1.2⟩, hk.2⟩)) hg hat); replace HB := yaa (hb); replace HR126 := yaa ((show Kd.C (yag .u8) w35 A31 y123.length y123 from by rw [Ny123.out, KA31.out]; exact Kd.C_mid (lo := (a6 : Int).toNat) (hi := ((wrap64 (a6 + 64)) : Int).toNat) (c := e2) ((yaf (Kd.R_over' (upR a5.out) (Kd.R_typed (upR e4.out)) (by decide) hg)).2.2) KM31.out KL31.out ((yaf (Kd.R_over' (upR a5.out) (Kd.R_typed (upR e4.out)) (by decide) hg)).2.1))); replace a5 := yaa (Kd.R_over' (upR a5.out) (Kd.R_typed (upR e4.out)) (by decide) hg); have h7 := yaa (ho); clear e4; clear ho hb hg hat))
              (try simp only [Act.put, List.setIfInBounds_toArray, List.set_cons_zero, List.set_cons_succ])
              go_loopg [11, 12] k3 (fun kq v11 v12 w' => ∃ (b3 : List Int) (a7 : Int), v12 = .int .i64 a7 ∧ yah (spec_l1Sum.l3 kq a3 a9 b4 a6 d9 b3 a7 = some r) ∧ yah (kq ≤ k3) ∧ yah (Kd.R (yag .u64) 40 w' w.heap.size (fun k_ => some k_ ≠ (u7 : Value).ownBlock ∧ some k_ ≠ (e7 : Value).ownBlock ∧ some k_ ≠ (v11 : Value).ownBlock) (.slice d7 a3.length d8) a3) ∧ yah (Kd.R (yag .u8) 5 w' w.heap.size (fun _ => True) (.slice f6 a9.length e2) a9) ∧ yah (Kd.R (yag .u64) 40 w' w.heap.size (fun k_ => some k_ ≠ ((.slice d7 a3.length d8) : Value).ownBlock ∧ some k_ ≠ (e7 : Value).ownBlock ∧ some k_ ≠ (v11 : Value).ownBlock) u7 b4) ∧ yah (Kd.R (yag .u64) 40 w' w.heap.size (fun k_ => some k_ ≠ ((.slice d7 a3.length d8) : Value).ownBlock ∧ some k_ ≠ (u7 : Value).ownBlock ∧ some k_ ≠ (v11 : Value).ownBlock) e7 d9) ∧ yah (Kd.R (yag .u64) 40 w' w.heap.size (fun k_ => some k_ ≠ ((.slice d7 a3.length d8) : Value).ownBlock ∧ some k_ ≠ (u7 : Value).ownBlock ∧ some k_ ≠ (e7 : Value).ownBlock) v11 b3) ∧ yah (Below w.heap.size w w'))
              case atStart => exact ⟨(y133), (0), (by first | rfl | (simp; done) | (simp [*]; done)), H', ⟨Nat.le_refl _⟩, ⟨by (with_reducible repeat (first | apply yac | apply yad | apply yab)); exact yae a2.out (fun _ hk => ⟨hk.1.1, ⟨hk.1.2, hk.2⟩⟩)⟩, ⟨by first | exact a5.out | exact upR a5.out⟩, ⟨by (with_reducible repeat (first | apply yac | apply yad | apply yab)); exact yae a8.out (fun _ hk => ⟨hk.1.1, ⟨hk.1.2, hk.2⟩⟩)⟩, ⟨by (with_reducible repeat (first | apply yac | apply yad | apply yab)); exact yae d5.out (fun _ hk => ⟨hk.1.1, ⟨hk.1.2, hk.2⟩⟩)⟩, ⟨by first | exact h7.out | exact upR h7.out⟩, ⟨upH HB.out⟩⟩
              case round =>
               clear H'; (try clear c1); (try clear p1); (try clear q1); (try clear hx1); (try clear c2); (try clear p2); (try clear c3); (try clear q3); (try clear c6); (try clear f5); (try clear p6); (try clear c7); (try clear c7b0); (try clear c8); (try clear c8b0); (try clear c10); (try clear p10); (try clear q10); (try clear hx10); (try clear p11); (try clear q11); (try clear hx11); (try clear c17); (try clear e1); (try clear c18); (try clear c18b0); (try clear c19); (try clear c19b0); (try clear c20); (try clear c21); (try clear c24); (try clear f0); (try clear c25); (try clear g3); (try clear c25b1); (try clear c26); (try clear g4); (try clear g5); (try clear c27); (try clear g6); (try clear g7); (try clear c28); (try clear c29); (try clear c31); (try clear q31); (try clear b8); (try clear d0); (try clear p1); (try clear p10); (try clear p107); (try clear p11); (try clear p118); (try clear p2); (try clear p6); (try clear q031); (try clear q1); (try clear q10); (try clear q107); (try clear q11); (try clear q118); (try clear q31); obtain ⟨b3, a7, rfl, HA, HK4, a2, a5, a8, b9, b0, HB⟩ := hrel
               cases gk with
               | zero => exact absurd HA.out (by simp [spec_l1Sum.l3])
               | succ k4 =>
                have H := HA.out; clear HA
                simp only [spec_l1Sum.l3] at H
                by_cases c37 : a7 < 64
                ·
                 rw [if_pos c37] at H
                 have g8 : decide (a7 < 64) = true := decide_eq_true c37; clear c37
                 by_cases c38 : 0 ≤ a7
                 ·
                  rw [if_pos c38] at H
                  replace c38 := decide_eq_true c38
                  by_cases c39 : a7 < (b4.length : Int)
                  ·
                   rw [if_pos c39] at H
                   replace c39 := decide_eq_true c39
                   by_cases c40 : a7 < (d9.length : Int)
                   ·
                    rw [if_pos c40] at H
                    replace c40 := decide_eq_true c40; obtain ⟨i6, A41, H⟩ := bindA H; (try dsimp only at H); have H' := yaa H; clear H
                    try go_wp2
                    replace a2 := yaa (yab a2.out); replace a5 := yaa (yab a5.out); replace a8 := yaa (yab a8.out); replace b9 := yaa (yab b9.out); replace b0 := yaa (yab b0.out); replace HB := yaa (below_drew1 HB.out); obtain ⟨o5, o6, i7⟩ := Kd.R_slice a8.out
                    (first | subst i7 | (injection i7 with f1_ f2_ f3_; have f4_ := f1_.symm; have f5_ := f3_.symm; clear f1_ f2_ f3_; subst f4_; subst f5_))
                    have p136 : 0 ≤ (a7 : Int) := of_decide_eq_true (by assumption); have q136 : a7 < (b4.length : Int) := of_decide_eq_true (by assumption); obtain ⟨ad136, m1, d1⟩ := Kd.at_int (yaf a8.out).2.2 a7 p136 q136
                    cases m1
                    replace p136 := eq_true p136; replace q136 := eq_true q136; obtain ⟨o7, o8, i8⟩ := Kd.R_slice b9.out
                    (first | subst i8 | (injection i8 with f1_ f2_ f3_; have f4_ := f1_.symm; have f5_ := f3_.symm; clear f1_ f2_ f3_; subst f4_; subst f5_))
                    have p137 : 0 ≤ (a7 : Int) := of_decide_eq_true (by assumption); have q137 : a7 < (d9.length : Int) := of_decide_eq_true (by assumption); obtain ⟨ad137, m2, d2⟩ := Kd.at_int (yaf b9.out).2.2 a7 p137 q137
                    cases m2
                    replace p137 := eq_true p137; replace q137 := eq_true q137; obtain ⟨m3, m4, i9⟩ := Kd.R_slice b0.out
                    (first | subst i9 | (injection i9 with f1_ f2_ f3_; have f4_ := f1_.symm; have f5_ := f3_.symm; clear f1_ f2_ f3_; subst f4_; subst f5_))
                    refine start_ (n := 11) (S := fun w' => w'.cell? (ad136.add (a7).toNat) = some (.int .u64 (rd b4 a7)) ∧ w'.cell? (ad137.add (a7).toNat) = some (.int .u64 (rd d9 a7))) (ds := []) q20_0 (by kernel_rfl) rfl rfl ⟨d1, d2⟩ (fun hHeld => ?_); refine with_tabW spec_l1Sum.tab21 spec_l1Sum.bits21 (fun HT_ HW_ => ?_)
                    generalize wr.drew = w42 at a2 a5 a8 b9 b0 HB d1 d2 hHeld ⊢
                    refine pz_ 0 64 q20_1 HT_ (by kernel_rfl) ?_
                    refine pz_ 1 65 q20_2 HT_ (by kernel_rfl) ?_
                    refine pz_ 2 66 q20_3 HT_ (by kernel_rfl) ?_
                    refine pz_ 3 67 q20_4 HT_ (by kernel_rfl) ?_
                    refine pz_ 5 69 q20_5 HT_ (by kernel_rfl) ?_
                    refine pz_ 6 70 q20_6 HT_ (by kernel_rfl) ?_
                    refine pz_ 7 71 q20_7 HT_ (by kernel_rfl) ?_
                    refine tz_ 4 68 q20_8 HT_ HW_ (by kernel_rfl) hHeld ?_
                    refine tz_ 8 72 q20_9 HT_ HW_ (by kernel_rfl) hHeld ?_
                    refine one_ (i := 9) (N := some 73) q20_10 rfl rfl (one_of HT_.out (by kernel_rfl)) (by decide) (fun K hK => ?_)
                    refine goes_ Tryd.func30 (by kernel_rfl) rfl #[.slice m3 b3.length m4, .int .u64 (rd b4 a7), .int .u64 (rd d9 a7)] (by rfl) rfl rfl (by (try simp only [List.map_toArray, List.map_cons, List.map_nil]); first | done | rfl | (simp only [List.length_drop, List.length_take]; rfl)) ?_
                    with_reducible refine (spec_l1Step.calls _ _ b3 (rd b4 a7) (rd d9 a7) i6 _ ?side1 ?side2 A41.out).mono ?_
                    (case side1 => repeat (first | exact (yaf b0.out).2.2 | (with_reducible refine Kd.C_alloc ?_ _) | (with_reducible refine Kd.C_drewN ?_ _) | (with_reducible refine Kd.C_drew ?_)))
                    (case side2 => exact (yaf b0.out).2.1)
                    rintro e w46 ⟨o9, rfl, ho0, hb⟩; have HS0_ := (hb.cell (World.block_lt_of_cell? _ _ (hHeld.1))).trans (hHeld.1); have HS1_ := (hb.cell (World.block_lt_of_cell? _ _ (hHeld.2))).trans (hHeld.2); refine ⟨_, rfl, ?_⟩; replace a5 := yaa (Kd.R_below (upR a5.out) hb); have j0 := yaa (Kd.R_lower (Kd.R_new' (Kd.R_new' (Kd.R_new' (Kd.R_new' ho0 (Kd.R_lt (upR a2.out))) (Kd.R_lt (upR a8.out))) (Kd.R_lt (upR b9.out))) (Kd.R_lt (upR b0.out))) (below_size (upH HB.out))); replace a2 := yaa (yai (upR a2.out) (Kd.R_base ho0) hb); replace a8 := yaa (yai (upR a8.out) (Kd.R_base ho0) hb); replace b9 := yaa (yai (upR b9.out) (Kd.R_base ho0) hb); replace b0 := yaa (yai (upR b0.out) (Kd.R_base ho0) hb); replace HB := yaa (below_step (upH HB.out) hb); (try clear hb); (try clear hb2); (try clear hk); (try clear hi); (try clear ho0)
                    refine hK.out _ _ ⟨HS0_, HS1_⟩ (fun hHeld => ?_)
                    clear hK K
                    refine norm_ (a' := ?_) ?_ ?_
                    rotate_left
                    ·
                     show Act.put _ (some 73) _ = _
                     simp only [Act.put, List.setIfInBounds_toArray, List.set_cons_zero, List.set_cons_succ, i64_w, i32_w]
                     rfl
                    refine pz_ 10 11 q20_11 HT_ (by kernel_rfl) ?_
                    refine done_ (done_of HT_.out (by kernel_rfl)) ?_
                    try go_wp2
                    go_roundg k4
                    case measure => have := HK1.out; have := HK2.out; have := HK3.out; have := HK4.out; omega
                    case rel => exact ⟨(i6), (wrap64 (a7 + 1)), (by first | rfl | (simp; done) | (simp [*]; done)), H', ⟨by have := HK1.out; have := HK2.out; have := HK3.out; have := HK4.out; omega⟩, ⟨by (with_reducible repeat (first | apply yac | apply yad | apply yab)); exact yae a2.out (fun _ hk => ⟨hk.1.1, ⟨hk.1.2.1, hk.2⟩⟩)⟩, ⟨by first | exact a5.out | exact upR a5.out⟩, ⟨by (with_reducible repeat (first | apply yac | apply yad | apply yab)); exact yae a8.out (fun _ hk => ⟨hk.1.1, ⟨hk.1.2.1, hk.2⟩⟩)⟩, ⟨by (with_reducible repeat (first | apply yac | apply yad | apply yab)); exact yae b9.out (fun _ hk => ⟨hk.1.1, ⟨hk.1.2.1, hk.2⟩⟩)⟩, ⟨by (with_reducible repeat (first | apply yac | apply yad | apply yab)); exact yae j0.out (fun _ hk => ⟨hk.1.1.1.2, ⟨hk.1.1.2, hk.1.2⟩⟩)⟩, ⟨upH HB.out⟩⟩
                   ·
                    rw [if_neg c40] at H
                    exact absurd H (by simp)
                  ·
                   rw [if_neg c39] at H
                   exact absurd H (by simp)
                 ·
                  rw [if_neg c38] at H
                  exact absurd H (by simp)
                ·
                 rw [if_neg c37] at H
                 have g8 : decide (a7 < 64) = false := decide_eq_false c37; clear c37; have H' := yaa H; clear H
                 go_wp2
                 (try simp only [Act.put, List.setIfInBounds_toArray, List.set_cons_zero, List.set_cons_succ])
                 go_loopg [13] k4 (fun kq v13 w' => ∃ (d6 : List Int) (a4 : Int), v13 = .int .i64 a4 ∧ yah (spec_l1Sum.l4 kq d6 a9 b4 a6 b3 a4 = some r) ∧ yah (kq ≤ k4) ∧ yah (Kd.R (yag .u64) 40 w' w.heap.size (fun k_ => some k_ ≠ (u7 : Value).ownBlock ∧ some k_ ≠ (u11 : Value).ownBlock) (.slice d7 a3.length d8) d6) ∧ yah (Kd.R (yag .u8) 5 w' w.heap.size (fun _ => True) (.slice f6 a9.length e2) a9) ∧ yah (Kd.R (yag .u64) 40 w' w.heap.size (fun k_ => some k_ ≠ ((.slice d7 a3.length d8) : Value).ownBlock ∧ some k_ ≠ (u11 : Value).ownBlock) u7 b4) ∧ yah (Kd.R (yag .u64) 40 w' w.heap.size (fun k_ => some k_ ≠ ((.slice d7 a3.length d8) : Value).ownBlock ∧ some k_ ≠ (u7 : Value).ownBlock) u11 b3) ∧ yah (Below w.heap.size w w'))
                 case atStart => exact ⟨(a3), (0), (by first | rfl | (simp; done) | (simp [*]; done)), H', ⟨Nat.le_refl _⟩, ⟨by (with_reducible repeat (first | apply yac | apply yad | apply yab)); exact yae a2.out (fun _ hk => ⟨hk.1, hk.2.2⟩)⟩, ⟨by first | exact a5.out | exact upR a5.out⟩, ⟨by (with_reducible repeat (first | apply yac | apply yad | apply yab)); exact yae a8.out (fun _ hk => ⟨hk.1, hk.2.2⟩)⟩, ⟨by (with_reducible repeat (first | apply yac | apply yad | apply yab)); exact yae b0.out (fun _ hk => ⟨hk.1, hk.2.1⟩)⟩, ⟨upH HB.out⟩⟩
                 case round =>
                  clear H'; (try clear c1); (try clear p1); (try clear q1); (try clear hx1); (try clear c2); (try clear p2); (try clear c3); (try clear q3); (try clear c4); (try clear c6); (try clear f5); (try clear p6); (try clear c7); (try clear c7b0); (try clear c8); (try clear c8b0); (try clear c10); (try clear p10); (try clear q10); (try clear hx10); (try clear p11); (try clear q11); (try clear hx11); (try clear p13); (try clear q13); (try clear hx13); (try clear c17); (try clear e1); (try clear c18); (try clear c18b0); (try clear c19); (try clear c19b0); (try clear c20); (try clear c21); (try clear c24); (try clear f0); (try clear c25); (try clear g3); (try clear c25b1); (try clear c26); (try clear g4); (try clear g5); (try clear c27); (try clear g6); (try clear g7); (try clear c28); (try clear c29); (try clear c30); (try clear c31); (try clear q31); (try clear c37); (try clear g8); (try clear c38); (try clear c38b0); (try clear c39); (try clear c39b0); (try clear c40); (try clear c40b0); (try clear b8); (try clear d0); (try clear d1); (try clear d2); (try clear p1); (try clear p10); (try clear p107); (try clear p11); (try clear p118); (try clear p136); (try clear p137); (try clear p2); (try clear p6); (try clear q031); (try clear q1); (try clear q10); (try clear q107); (try clear q11); (try clear q118); (try clear q136); (try clear q137); (try clear q3); (try clear q31); obtain ⟨d6, a4, rfl, HA, HK5, a2, a5, a8, b0, HB⟩ := hrel; have hl4_5 := (yaf a2.out).1
                  rw [hl4_5] at a2
                  (try simp only [hl4_5])
                  (try simp only [hl4_5] at a5)
                  (try simp only [hl4_5] at a8)
                  (try simp only [hl4_5] at b0)
                  cases gk with
                  | zero => exact absurd HA.out (by simp [spec_l1Sum.l4])
                  | succ k5 =>
                   have H := HA.out; clear HA
                   simp only [spec_l1Sum.l4] at H
                   by_cases c47 : a4 < 8
                   ·
                    rw [if_pos c47] at H
                    have h9 : decide (a4 < 8) = true := decide_eq_true c47; clear c47
                    by_cases c48 : 0 ≤ a4
                    ·
                     rw [if_pos c48] at H
                     replace c48 := decide_eq_true c48
                     by_cases c49 : a4 < (d6.length : Int)
                     ·
                      rw [if_pos c49] at H
                      replace c49 := decide_eq_true c49
                      by_cases c50 : a4 < (b3.length : Int)
                      ·
                       rw [if_pos c50] at H
                       replace c50 := decide_eq_true c50; obtain ⟨f7, A51, H⟩ := bindA H; (try dsimp only at H); obtain ⟨y144, hy144⟩ : ∃ y_ : List Int, y_ = (d6.set (a4 : Int).toNat f7) := ⟨_, rfl⟩
                       replace H : (spec_l1Sum.l4 k5 y144 a9 b4 a6 b3 (wrap64 (a4 + 1))) = some r := by first | (rw [hy144]; with_reducible exact H) | (have H2_ := (Option.bind_some _ _).symm.trans H; rw [hy144]; with_reducible exact H2_) | (have H2_ := (Option.bind_some _ _).symm.trans H; with_reducible exact H2_) | with_reducible exact H | (rw [hy144]; exact H) | exact H
                       have Ny144 := yaa hy144; clear hy144; have H' := yaa H; clear H
                       try go_wp2
                       replace a2 := yaa (yab a2.out); replace a5 := yaa (yab a5.out); replace a8 := yaa (yab a8.out); replace b0 := yaa (yab b0.out); replace HB := yaa (below_drew1 HB.out); have p141 : 0 ≤ (a4 : Int) := of_decide_eq_true (by assumption); have q141 : a4 < (d6.length : Int) := of_decide_eq_true (by assumption); obtain ⟨ad141, m6, d3⟩ := Kd.at_int (yaf a2.out).2.2 a4 p141 q141
                       cases m6
                       replace p141 := eq_true p141; replace q141 := eq_true q141; obtain ⟨p0, p3, j4⟩ := Kd.R_slice b0.out
                       (first | subst j4 | (injection j4 with f1_ f2_ f3_; have f4_ := f1_.symm; have f5_ := f3_.symm; clear f1_ f2_ f3_; subst f4_; subst f5_))
                       have p142 : 0 ≤ (a4 : Int) := of_decide_eq_true (by assumption); have q142 : a4 < (b3.length : Int) := of_decide_eq_true (by assumption); obtain ⟨ad142, m7, e0⟩ := Kd.at_int (yaf b0.out).2.2 a4 p142 q142
                       cases m7
                       replace p142 := eq_true p142; replace q142 := eq_true q142
                       refine start_ (n := 14) (S := fun w' => w'.cell? (ad141.add (a4).toNat) = some (.int .u64 (rd d6 a4)) ∧ w'.cell? (ad142.add (a4).toNat) = some (.int .u64 (rd b3 a4))) (ds := [13]) q20_12 (by kernel_rfl) rfl rfl ⟨d3, e0⟩ (fun hHeld => ?_); refine with_tabW spec_l1Sum.tab25 spec_l1Sum.bits25 (fun HT_ HW_ => ?_)
                       generalize wr.drew = w53 at a2 a5 a8 b0 HB d3 e0 hHeld ⊢
                       refine pz_ 0 78 q20_13 HT_ (by kernel_rfl) ?_
                       refine pz_ 1 79 q20_14 HT_ (by kernel_rfl) ?_
                       refine pz_ 2 80 q20_15 HT_ (by kernel_rfl) ?_
                       refine pz_ 3 81 q20_16 HT_ (by kernel_rfl) ?_
                       refine pz_ 4 82 q20_17 HT_ (by kernel_rfl) ?_
                       refine pz_ 6 84 q20_18 HT_ (by kernel_rfl) ?_
                       refine pz_ 7 85 q20_19 HT_ (by kernel_rfl) ?_
                       refine pz_ 8 86 q20_20 HT_ (by kernel_rfl) ?_
                       refine tz_ 5 83 q20_21 HT_ HW_ (by kernel_rfl) hHeld ?_
                       refine tz_ 9 87 q20_22 HT_ HW_ (by kernel_rfl) hHeld ?_
                       refine pz_ 10 88 q20_23 HT_ (by kernel_rfl) ?_
                       refine one_ (i := 11) (N := some 89) q20_24 rfl rfl (one_of HT_.out (by kernel_rfl)) (by decide) (fun K hK => ?_)
                       refine goes_ Tryd.func31 (by kernel_rfl) rfl #[.int .u64 (IntKind.u64.wrap ((rd d6 a4) + (rd b3 a4)))] (by rfl) rfl rfl (by (try simp only [List.map_toArray, List.map_cons, List.map_nil]); first | done | rfl | (simp only [List.length_drop, List.length_take]; rfl)) ?_
                       with_reducible refine (spec_l1Word.calls (IntKind.u64.wrap ((rd d6 a4) + (rd b3 a4))) f7 _ A51.out).mono ?_
                       rintro e w' ⟨rfl, ⟨nd, rfl⟩⟩; refine ⟨_, rfl, ?_⟩; have p52 : 0 ≤ (a4 : Int) := of_decide_eq_true (by assumption); have q52 : (a4 : Int) < ((d6.length : Int) : Int) := of_decide_eq_true (by assumption); obtain ⟨go52, p4, j5, j6, gl52, p7, HG52⟩ := Kd.R_form a2.out (by omega)
                       (first | cases j5 | (injection j5 with ea_ en_ ec_; (first | subst ea_ | (injection ea_ with ea_; subst ea_)); subst ec_; clear en_))
                       have GB52 := yaa j6; have GG52 := yaa HG52; clear j6 gl52 HG52
                       (first | simp only [add_plain] at d3 | skip)
                       obtain ⟨i1, hf52_0⟩ := Kd.R_celln 0 a2.out (a4 : Int) p52 q52; replace p52 := eq_true p52; replace q52 := eq_true q52; have HP55 := Kd.R_putn a2.out (a4 : Int) f7
                       rw [← Ny144.out] at HP55
                       have HQ55 := yaa HP55; clear HP55
                       refine hK.out _ _ ⟨hHeld.1, hHeld.2⟩ (fun hHeld => ?_)
                       clear hK K
                       refine norm_ (a' := ?_) ?_ ?_
                       rotate_left
                       ·
                        show Act.put _ (some 89) _ = _
                        simp only [Act.put, List.setIfInBounds_toArray, List.set_cons_zero, List.set_cons_succ, i64_w, i32_w]
                        rfl
                       refine pz_ 12 90 q20_25 HT_ (by kernel_rfl) ?_
                       refine last_ (i := 13) (N := none) q20_26 rfl rfl (one_of HT_.out (by kernel_rfl)) (by decide) (fun K hK => ?_)
                       refine skip_ (w1 := ?_) (by rfl) rfl ?_ ?_
                       rotate_left
                       ·
                        go_simp
                        rfl
                       refine hK.out _ _ ?_
                       clear hK K
                       refine done_ (done_of HT_.out (by kernel_rfl)) ?_
                       try go_wp2
                       (try simp only [← hl4_5])
                       go_roundg k5
                       case measure => have := HK1.out; have := HK2.out; have := HK3.out; have := HK4.out; have := HK5.out; omega
                       case rel => exact ⟨(y144), (wrap64 (a4 + 1)), (by first | rfl | (simp; done) | (simp [*]; done)), H', ⟨by have := HK1.out; have := HK2.out; have := HK3.out; have := HK4.out; have := HK5.out; omega⟩, ⟨by (try simp only [hl4_5]); first | exact HQ55.out | exact upR HQ55.out⟩, ⟨by (try simp only [hl4_5]); (with_reducible repeat (first | apply yac | apply yad | apply yab)); exact yae (Kd.R_far (p := ⟨go52, (a4 : Int).toNat, none⟩) (Kd.R_types a5.out GG52.out (by decide)) (fun _ hk => hk.2) (.int .u64 f7)) (fun _ hk => trivial)⟩, ⟨by (try simp only [hl4_5]); (with_reducible repeat (first | apply yac | apply yad | apply yab)); exact yae (Kd.R_far (p := ⟨go52, (a4 : Int).toNat, none⟩) (yae a8.out (fun k_ hk => (⟨hk, fun e_ => hk.1 (by rw [e_]; rfl)⟩ : _ ∧ k_ ≠ go52))) (fun _ hk => hk.2) (.int .u64 f7)) (fun _ hk => ⟨hk.1.1, hk.1.2⟩)⟩, ⟨by (try simp only [hl4_5]); (with_reducible repeat (first | apply yac | apply yad | apply yab)); exact yae (Kd.R_far (p := ⟨go52, (a4 : Int).toNat, none⟩) (yae b0.out (fun k_ hk => (⟨hk, fun e_ => hk.1 (by rw [e_]; rfl)⟩ : _ ∧ k_ ≠ go52))) (fun _ hk => hk.2) (.int .u64 f7)) (fun _ hk => ⟨hk.1.1, hk.1.2⟩)⟩, ⟨by repeat (with_reducible first | exact HB.out | apply below_alloc | apply pw_below_drewN | apply below_drew1 | refine below_set ?_ (Aside0.out ‹_›))⟩⟩
                      ·
                       rw [if_neg c50] at H
                       exact absurd H (by simp)
                     ·
                      rw [if_neg c49] at H
                      exact absurd H (by simp)
                    ·
                     rw [if_neg c48] at H
                     exact absurd H (by simp)
                   ·
                    rw [if_neg c47] at H
                    have h9 : decide (a4 < 8) = false := decide_eq_false c47; clear c47; have H' := yaa H; clear H
                    go_wp2
                    (try simp only [← hl4_5])
                    go_roundg k5
                    case measure => have := HK1.out; have := HK2.out; have := HK3.out; have := HK4.out; have := HK5.out; omega
                    case rel => exact ⟨(d6), (wrap64 (a6 + 64)), (by first | rfl | (simp; done) | (simp [*]; done)), H', ⟨by have := HK1.out; have := HK2.out; have := HK3.out; have := HK4.out; have := HK5.out; omega⟩, ⟨by (try simp only [hl4_5]); (with_reducible repeat (first | apply yac | apply yad | apply yab)); exact yae a2.out (fun _ hk => hk.1)⟩, ⟨by (try simp only [hl4_5]); first | exact a5.out | exact upR a5.out⟩, ⟨by (try simp only [hl4_5]); (with_reducible repeat (first | apply yac | apply yad | apply yab)); exact yae a8.out (fun _ hk => hk.1)⟩, ⟨upH HB.out⟩⟩
             ·
              rw [if_neg c29] at H
              exact absurd H (by simp)
            ·
             rw [if_neg c27] at H
             exact absurd H (by simp)
           ·
            rw [if_neg c26] at H
            exact absurd H (by simp)
          ·
           rw [if_neg c25] at H
           exact absurd H (by simp)
         ·
          rw [if_neg c24] at H
          have f0 : decide (a6 < (a9.length : Int)) = false := decide_eq_false c24; clear c24; obtain ⟨y145, hy145⟩ : ∃ y_ : List Int, y_ = (([] : List Int)) := ⟨_, rfl⟩
          replace H : (spec_l1Sum.l5 k3 a3 y145 0) = some r := by first | (rw [hy145]; with_reducible exact H) | (have H2_ := (Option.bind_some _ _).symm.trans H; rw [hy145]; with_reducible exact H2_) | (have H2_ := (Option.bind_some _ _).symm.trans H; with_reducible exact H2_) | with_reducible exact H | (rw [hy145]; exact H) | exact H
          have Ny145 := yaa hy145; clear hy145; have H' := yaa H; clear H; obtain ⟨p8, p9, m8⟩ := Kd.R_slice a5.out; subst m8
          go_wp2_with (first | ((with_reducible refine gd_ 91 rfl ?_); refine Kd.R_lit (yag .u8) _ 5 ?hg (N := 91) ?hd (xs := ([] : List Int)) (inner := []) (ok := fun _ => True) (okp := fun _ => True) ?hr ?hp (fun _ hk => hk) trivial (Below.refl _ _) (Nat.le_refl _) (by simp) ?_; (case hd => rfl); (case hg => rfl); (case hr => first | (go_simp; done) | (go_simp; rfl)); (case hp => exact (Reps.none _ _)); intro q0 w57 f8 hb hg_ hnew_; clear hg_ hnew_; (first | rw [← Ny145.out] at f8 | (simp only [Int.reduceToNat] at f8; rw [← Ny145.out] at f8)); replace a2 := yaa (Kd.R_below (upR a2.out) hb); replace a8 := yaa (Kd.R_below (upR a8.out) hb); have j7 := yaa (Kd.R_lower (Kd.R_new' f8 (Kd.R_lt (upR a5.out))) (below_size (upH HB.out))); replace a5 := yaa (yai (upR a5.out) (Kd.R_base f8) hb); replace HB := yaa (below_step (upH HB.out) hb); clear hb f8))
          (try simp only [Act.put, List.setIfInBounds_toArray, List.set_cons_zero, List.set_cons_succ])
          go_loopg [14, 15] k3 (fun kq v14 v15 w' => ∃ (c9 : List Int) (a1 : Int), v15 = .int .i64 a1 ∧ yah (spec_l1Sum.l5 kq a3 c9 a1 = some r) ∧ yah (kq ≤ k3) ∧ yah (Kd.R (yag .u64) 40 w' w.heap.size (fun _ => True) u4 a3) ∧ yah (Kd.R (yag .u8) 5 w' w.heap.size (fun _ => True) v14 c9) ∧ yah (Below w.heap.size w w'))
          case atStart => exact ⟨(y145), (0), (by first | rfl | (simp; done) | (simp [*]; done)), H', ⟨Nat.le_refl _⟩, ⟨by (with_reducible repeat (first | apply yac | apply yad | apply yab)); exact yae a2.out (fun _ hk => trivial)⟩, ⟨by (with_reducible repeat (first | apply yac | apply yad | apply yab)); exact yae j7.out (fun _ hk => trivial)⟩, ⟨upH HB.out⟩⟩
          case round =>
           clear H'; (try clear c1); (try clear p1); (try clear q1); (try clear hx1); (try clear c2); (try clear p2); (try clear c3); (try clear q3); (try clear c4); (try clear c5); (try clear p5); (try clear q5); (try clear hx5); (try clear hf5); (try clear c6); (try clear f5); (try clear p6); (try clear c7); (try clear c7b0); (try clear c8); (try clear c8b0); (try clear c10); (try clear p10); (try clear q10); (try clear hx10); (try clear p11); (try clear q11); (try clear hx11); (try clear p13); (try clear q13); (try clear hx13); (try clear p14); (try clear q14); (try clear hx14); (try clear c17); (try clear e1); (try clear c18); (try clear c18b0); (try clear c19); (try clear c19b0); (try clear c20); (try clear c21); (try clear c24); (try clear f0); (try clear c25); (try clear g3); (try clear c25b1); (try clear c26); (try clear g4); (try clear g5); (try clear c27); (try clear g6); (try clear g7); (try clear c28); (try clear c29); (try clear c30); (try clear c31); (try clear q31); (try clear c37); (try clear g8); (try clear c38); (try clear c38b0); (try clear c39); (try clear c39b0); (try clear c40); (try clear c40b0); (try clear c47); (try clear h9); (try clear c48); (try clear c48b0); (try clear c49); (try clear c49b0); (try clear c50); (try clear c50b0); (try clear p52); (try clear q52); (try clear hx52); (try clear hf52); (try clear b8); (try clear d0); (try clear d1); (try clear d2); (try clear d3); (try clear e0); (try clear i1); (try clear p1); (try clear p10); (try clear p107); (try clear p11); (try clear p118); (try clear p13); (try clear p136); (try clear p137); (try clear p141); (try clear p142); (try clear p2); (try clear p52); (try clear p6); (try clear q031); (try clear q1); (try clear q10); (try clear q107); (try clear q11); (try clear q118); (try clear q13); (try clear q136); (try clear q137); (try clear q141); (try clear q142); (try clear q3); (try clear q31); (try clear q52); obtain ⟨c9, a1, rfl, HA, HK4, a2, b5, HB⟩ := hrel
           cases gk with
           | zero => exact absurd HA.out (by simp [spec_l1Sum.l5])
           | succ k4 =>
            have H := HA.out; clear HA
            simp only [spec_l1Sum.l5] at H
            by_cases c59 : a1 < 8
            ·
             rw [if_pos c59] at H
             have j8 : decide (a1 < 8) = true := decide_eq_true c59; clear c59
             by_cases c60 : 0 ≤ a1
             ·
              rw [if_pos c60] at H
              replace c60 := decide_eq_true c60
              by_cases c61 : a1 < (a3.length : Int)
              ·
               rw [if_pos c61] at H
               replace c61 := decide_eq_true c61; obtain ⟨y152, hy152⟩ : ∃ y_ : List Int, y_ = (([((rd a3 a1) / 16777216) % 256, ((rd a3 a1) / 65536) % 256, ((rd a3 a1) / 256) % 256, (rd a3 a1) % 256] : List Int)) := ⟨_, rfl⟩
               replace H : (if c9.length + y152.length < 140737488355328 then (spec_l1Sum.l5 k4 a3 (c9 ++ y152) (wrap64 (a1 + 1))) else (none)) = some r := by first | (rw [hy152]; with_reducible exact H) | (have H2_ := (Option.bind_some _ _).symm.trans H; rw [hy152]; with_reducible exact H2_) | (have H2_ := (Option.bind_some _ _).symm.trans H; with_reducible exact H2_) | with_reducible exact H | (rw [hy152]; exact H) | exact H
               have Ny152 := yaa hy152; clear hy152
               by_cases c62 : c9.length + y152.length < 140737488355328
               ·
                rw [if_pos c62] at H
                have LMc62 := yaa c62; clear c62; obtain ⟨y155, hy155⟩ : ∃ y_ : List Int, y_ = (c9 ++ y152) := ⟨_, rfl⟩
                replace H : (spec_l1Sum.l5 k4 a3 y155 (wrap64 (a1 + 1))) = some r := by first | (rw [hy155]; with_reducible exact H) | (have H2_ := (Option.bind_some _ _).symm.trans H; rw [hy155]; with_reducible exact H2_) | (have H2_ := (Option.bind_some _ _).symm.trans H; with_reducible exact H2_) | with_reducible exact H | (rw [hy155]; exact H) | exact H
                have Ny155 := yaa hy155; clear hy155; have H' := yaa H; clear H
                try go_wp2
                replace a2 := yaa (yab a2.out); replace b5 := yaa (yab b5.out); replace HB := yaa (below_drew1 HB.out); obtain ⟨q6, q7, j9⟩ := Kd.R_slice a2.out
                (first | subst j9 | (injection j9 with f1_ f2_ f3_; have f4_ := f1_.symm; have f5_ := f3_.symm; clear f1_ f2_ f3_; subst f4_; subst f5_))
                have p148 : 0 ≤ (a1 : Int) := of_decide_eq_true (by assumption); have q148 : a1 < (a3.length : Int) := of_decide_eq_true (by assumption); obtain ⟨ad148, m9, f1⟩ := Kd.at_int (yaf a2.out).2.2 a1 p148 q148
                cases m9
                replace p148 := eq_true p148; replace q148 := eq_true q148; have p149 : 0 ≤ (a1 : Int) := of_decide_eq_true (by assumption); have q149 : a1 < (a3.length : Int) := of_decide_eq_true (by assumption); obtain ⟨ad149, n0, f2⟩ := Kd.at_int (yaf a2.out).2.2 a1 p149 q149; obtain rfl : ad148 = ad149 := (by injection n0); replace p149 := eq_true p149; replace q149 := eq_true q149; have p150 : 0 ≤ (a1 : Int) := of_decide_eq_true (by assumption); have q150 : a1 < (a3.length : Int) := of_decide_eq_true (by assumption); obtain ⟨ad150, n1, f3⟩ := Kd.at_int (yaf a2.out).2.2 a1 p150 q150; obtain rfl : ad148 = ad150 := (by injection n1); replace p150 := eq_true p150; replace q150 := eq_true q150; have p151 : 0 ≤ (a1 : Int) := of_decide_eq_true (by assumption); have q151 : a1 < (a3.length : Int) := of_decide_eq_true (by assumption); obtain ⟨ad151, n2, f4⟩ := Kd.at_int (yaf a2.out).2.2 a1 p151 q151; obtain rfl : ad148 = ad151 := (by injection n2); replace p151 := eq_true p151; replace q151 := eq_true q151
                refine start_ (n := 27) (S := fun w' => w'.cell? (ad148.add (a1).toNat) = some (.int .u64 (rd a3 a1)) ∧ w'.cell? (ad148.add (a1).toNat) = some (.int .u64 (rd a3 a1)) ∧ w'.cell? (ad148.add (a1).toNat) = some (.int .u64 (rd a3 a1)) ∧ w'.cell? (ad148.add (a1).toNat) = some (.int .u64 (rd a3 a1))) (ds := [25]) q20_27 (by kernel_rfl) rfl rfl ⟨f1, f2, f3, f4⟩ (fun hHeld => ?_); refine with_tabW spec_l1Sum.tab30 spec_l1Sum.bits30 (fun HT_ HW_ => ?_)
                generalize wr.drew = w63 at a2 b5 HB f1 f2 f3 f4 hHeld ⊢
                refine pz_ 0 96 q20_28 HT_ (by kernel_rfl) ?_
                refine pz_ 1 97 q20_29 HT_ (by kernel_rfl) ?_
                refine pz_ 2 98 q20_30 HT_ (by kernel_rfl) ?_
                refine pz_ 3 99 q20_31 HT_ (by kernel_rfl) ?_
                refine pz_ 7 103 q20_32 HT_ (by kernel_rfl) ?_
                refine pz_ 8 104 q20_33 HT_ (by kernel_rfl) ?_
                refine pz_ 9 105 q20_34 HT_ (by kernel_rfl) ?_
                refine pz_ 13 109 q20_35 HT_ (by kernel_rfl) ?_
                refine pz_ 14 110 q20_36 HT_ (by kernel_rfl) ?_
                refine pz_ 15 111 q20_37 HT_ (by kernel_rfl) ?_
                refine pz_ 19 115 q20_38 HT_ (by kernel_rfl) ?_
                refine pz_ 20 116 q20_39 HT_ (by kernel_rfl) ?_
                refine pz_ 21 117 q20_40 HT_ (by kernel_rfl) ?_
                refine tz_ 4 100 q20_41 HT_ HW_ (by kernel_rfl) hHeld ?_
                refine pz_ 5 101 q20_42 HT_ (by kernel_rfl) ?_
                refine pz_ 6 102 q20_43 HT_ (by kernel_rfl) ?_
                refine tz_ 10 106 q20_44 HT_ HW_ (by kernel_rfl) hHeld ?_
                refine pz_ 11 107 q20_45 HT_ (by kernel_rfl) ?_
                refine pz_ 12 108 q20_46 HT_ (by kernel_rfl) ?_
                refine tz_ 16 112 q20_47 HT_ HW_ (by kernel_rfl) hHeld ?_
                refine pz_ 17 113 q20_48 HT_ (by kernel_rfl) ?_
                refine pz_ 18 114 q20_49 HT_ (by kernel_rfl) ?_
                refine tz_ 22 118 q20_50 HT_ HW_ (by kernel_rfl) hHeld ?_
                refine pz_ 23 119 q20_51 HT_ (by kernel_rfl) ?_
                refine one_ (i := 24) (N := some 120) q20_52 rfl rfl (one_of HT_.out (by kernel_rfl)) (by decide) (fun K hK => ?_)
                refine Kd.R_lit_step (yag .u8) _ 5 ?hg (N := 120) ?hd (xs := ([((rd a3 a1) / 16777216) % 256, ((rd a3 a1) / 65536) % 256, ((rd a3 a1) / 256) % 256, (rd a3 a1) % 256] : List Int)) (inner := [.int .u8 (((rd a3 a1) / 16777216) % 256), .int .u8 (((rd a3 a1) / 65536) % 256), .int .u8 (((rd a3 a1) / 256) % 256), .int .u8 ((rd a3 a1) % 256)]) (ok := fun _ => True) (okp := fun _ => True) ?hr ?hp (fun _ hk => hk) trivial (Below.refl _ _) (Nat.le_refl _) (by simp) ?_; (case hd => rfl); (case hg => rfl); (case hr => first | (go_simp; done) | (go_simp; rfl)); (case hp => exact (Reps.one (show Kd.M (yag .u8) _ _ _ (((rd a3 a1) / 16777216) % 256) [.int .u8 (((rd a3 a1) / 16777216) % 256)] from rfl) (Reps.one (show Kd.M (yag .u8) _ _ _ (((rd a3 a1) / 65536) % 256) [.int .u8 (((rd a3 a1) / 65536) % 256)] from rfl) (Reps.one (show Kd.M (yag .u8) _ _ _ (((rd a3 a1) / 256) % 256) [.int .u8 (((rd a3 a1) / 256) % 256)] from rfl) (Reps.one (show Kd.M (yag .u8) _ _ _ ((rd a3 a1) % 256) [.int .u8 ((rd a3 a1) % 256)] from rfl) (Reps.none _ _))))))
                intro q8 w65 f9 hb hg_ hnew_; have HS0_ := (hb.cell (World.block_lt_of_cell? _ _ (hHeld.1))).trans (hHeld.1); have HS1_ := (hb.cell (World.block_lt_of_cell? _ _ (hHeld.2.1))).trans (hHeld.2.1); have HS2_ := (hb.cell (World.block_lt_of_cell? _ _ (hHeld.2.2.1))).trans (hHeld.2.2.1); have HS3_ := (hb.cell (World.block_lt_of_cell? _ _ (hHeld.2.2.2))).trans (hHeld.2.2.2); clear hg_ hnew_
                (first | rw [← Ny152.out] at f9 | (simp only [Int.reduceToNat] at f9; rw [← Ny152.out] at f9))
                replace a2 := yaa (Kd.R_below (upR a2.out) hb); have e5 := yaa (Kd.R_lower (Kd.R_new' f9 (Kd.R_lt (upR b5.out))) (below_size (upH HB.out))); replace b5 := yaa (yai (upR b5.out) (Kd.R_base f9) hb); replace HB := yaa (below_step (upH HB.out) hb); clear hb f9; obtain ⟨n3, n4, k0⟩ := Kd.R_slice e5.out
                (first | subst k0 | (injection k0 with f1_ f2_ f3_; have f4_ := f1_.symm; have f5_ := f3_.symm; clear f1_ f2_ f3_; subst f4_; subst f5_))
                refine hK.out _ _ ⟨HS0_, HS1_, HS2_, HS3_⟩ (fun hHeld => ?_)
                clear hK K
                refine norm_ (a' := ?_) ?_ ?_
                rotate_left
                ·
                 show Act.put _ (some 120) _ = _
                 simp only [Act.put, List.setIfInBounds_toArray, List.set_cons_zero, List.set_cons_succ, i64_w, i32_w]
                 rfl
                refine last_ (i := 25) (N := some 121) q20_53 rfl rfl (one_of HT_.out (by kernel_rfl)) (by decide) (fun K hK => ?_)
                refine Kd.R_append_rows_step (yag .u8) (w0 := w) w.heap.size (by rfl) (.tmp 96) (.tmp 120) 22 5 (.int .u8 0) 1 rfl Tryd.underlying22 info5 rfl (by decide) (by omega) u14 c9 y152 _ _ _ (fun k_ => some k_ ≠ (.slice n3 y152.length n4 : Value).ownBlock) (fun _ => False) rfl rfl ?aO ?aR (fun _ _ h => h) (fun _ h => h.elim) ?aF ?aB ?aS ?aL ?_
                (case aR => repeat (first | exact (yaf e5.out).2.2 | (with_reducible refine Kd.C_alloc ?_ _) | (with_reducible refine Kd.C_drewN ?_ _) | (with_reducible refine Kd.C_drew ?_)))
                (case aB => exact (upH HB.out))
                (case aF => exact (fun k_ hk => Kd.fresh' (Kd.R_lt (upR e5.out)) k_ hk))
                (case aO => exact (by (with_reducible repeat (first | apply yac | apply yad | apply yab)); exact yae b5.out (fun _ hk => by first | exact hk.2 | exact True.intro)))
                (case aS => exact (below_size (upH HB.out)))
                (case aL => have := LMc62.out; omega)
                intro q9 w67 ho hb hg hat
                rw [← Ny155.out] at ho
                replace a2 := yaa (Kd.R_over' (upR a2.out) (Kd.R_typed (upR b5.out)) (by decide) hg); replace e5 := yaa (Kd.R_after (ok := (fun _ => True)) (upR e5.out) hg hat); replace HB := yaa (hb); have k6 := yaa (ho); clear b5; clear ho hb hg hat
                refine hK.out _ _ ?_
                clear hK K
                refine norm_ (a' := ?_) ?_ ?_
                rotate_left
                ·
                 show Act.put _ (some 121) _ = _
                 simp only [Act.put, List.setIfInBounds_toArray, List.set_cons_zero, List.set_cons_succ, i64_w, i32_w]
                 rfl
                refine pz_ 26 14 q20_54 HT_ (by kernel_rfl) ?_
                refine done_ (done_of HT_.out (by kernel_rfl)) ?_
                try go_wp2
                go_roundg k4
                case measure => have := HK1.out; have := HK2.out; have := HK3.out; have := HK4.out; omega
                case rel => exact ⟨(y155), (wrap64 (a1 + 1)), (by first | rfl | (simp; done) | (simp [*]; done)), H', ⟨by have := HK1.out; have := HK2.out; have := HK3.out; have := HK4.out; omega⟩, ⟨by first | exact a2.out | exact upR a2.out⟩, ⟨by (with_reducible repeat (first | apply yac | apply yad | apply yab)); exact yae k6.out (fun _ hk => trivial)⟩, ⟨upH HB.out⟩⟩
               ·
                rw [if_neg c62] at H
                exact absurd H (by simp)
              ·
               rw [if_neg c61] at H
               exact absurd H (by simp)
             ·
              rw [if_neg c60] at H
              exact absurd H (by simp)
            ·
             rw [if_neg c59] at H
             have j8 : decide (a1 < 8) = false := decide_eq_false c59; clear c59; obtain rfl := Option.some.inj H
             go_wp2
             go_ret
             exact ⟨_, by first | rfl | (simp [*, errW_none, errW_some] <;> rfl), by first | exact b5.out | exact upR b5.out, upH HB.out⟩
end
section
open Go.Proofs.YtfinaphomgdmlaaDoorW.PrintWords.Aside0 renaming mk → yaa

mutual
def spec_ShaMac.j0 : Nat → List Int → List Int → Bool → Option (List Int)
 | 0, _, _, _ => none
 | k + 1, x0, x1, x16 => if x16 = true then (some (([] : List Int))) else ((some (([] : List Int) : List Int)).bind fun y104 => (if y104.length + x0.length < 140737488355328 then ((some (y104 ++ x0 : List Int)).bind fun y107 => (if (y107.length : Int) > 64 then ((spec_l1Sum.f k y107).bind fun t110 => (spec_ShaMac.j1 k x1 t110)) else (spec_ShaMac.j1 k x1 y107))) else (none)))
def spec_ShaMac.j1 : Nat → List Int → List Int → Option (List Int)
 | 0, _, _ => none
 | k + 1, x1, x5 => spec_ShaMac.l0 k x1 x5
def spec_ShaMac.l0 : Nat → List Int → List Int → Option (List Int)
 | 0, _, _ => none
 | k + 1, x1, x5 => if (x5.length : Int) < 64 then (if x5.length < 140737488355328 then (spec_ShaMac.l0 k x1 (x5 ++ [0])) else (none)) else (spec_ShaMac.l1 k x1 x5 (([] : List Int)) (([] : List Int)) 0)
def spec_ShaMac.l1 : Nat → List Int → List Int → List Int → List Int → Int → Option (List Int)
 | 0, _, _, _, _, _ => none
 | k + 1, x1, x5, x6, x7, x8 => if x8 < 64 then (if 0 ≤ x8 then (if x8 < (x5.length : Int) then (if x6.length < 140737488355328 then (if x7.length < 140737488355328 then (spec_ShaMac.l1 k x1 x5 (x6 ++ [Go.bits .xor .u8 (rd x5 x8) 54]) (x7 ++ [Go.bits .xor .u8 (rd x5 x8) 92]) (wrap64 (x8 + 1))) else (none)) else (none)) else (none)) else (none)) else (if x6.length + x1.length < 140737488355328 then ((spec_l1Sum.f k (x6 ++ x1)).bind fun t133 => (if x7.length + t133.length < 140737488355328 then ((spec_l1Sum.f k (x7 ++ t133)).bind fun t139 => (some t139)) else (none))) else (none))
end
def spec_ShaMac.f (k : Nat) (l0 : List Int) (l1 : List Int) : Option (List Int) := if (l0.length : Int) > 500 then (spec_ShaMac.j0 k l0 l1 true) else (spec_ShaMac.j0 k l0 l1 (decide ((l1.length : Int) > 500)))
theorem spec_ShaMac.mono_l : ∀ k, (∀ y0 y1 y2, LeO (spec_ShaMac.j0 k y0 y1 y2) (spec_ShaMac.j0 (k + 1) y0 y1 y2)) ∧ (∀ y0 y1, LeO (spec_ShaMac.j1 k y0 y1) (spec_ShaMac.j1 (k + 1) y0 y1)) ∧ (∀ y0 y1, LeO (spec_ShaMac.l0 k y0 y1) (spec_ShaMac.l0 (k + 1) y0 y1)) ∧ (∀ y0 y1 y2 y3 y4, LeO (spec_ShaMac.l1 k y0 y1 y2 y3 y4) (spec_ShaMac.l1 (k + 1) y0 y1 y2 y3 y4))
 | 0 => ⟨fun _ _ _ r h => by simp [spec_ShaMac.j0] at h, fun _ _ r h => by simp [spec_ShaMac.j1] at h, fun _ _ r h => by simp [spec_ShaMac.l0] at h, fun _ _ _ _ _ r h => by simp [spec_ShaMac.l1] at h⟩
 | k + 1 => by
  obtain ⟨ih0, ih1, ih2, ih3⟩ := spec_ShaMac.mono_l k
  refine ⟨?_, ?_, ?_, ?_⟩
  ·
   intro y0 y1 y2
   unfold spec_ShaMac.j0
   repeat' first | (with_reducible first | exact ih0 .. | exact ih1 .. | exact ih2 .. | exact ih3 .. | exact spec_l1Sum.mono .. | exact LeO.refl .. | exact LeO.none .. | refine LeO.ite ?_ ?_ | refine LeO.bind ?_ (fun _ => ?_)) | exact ih0 .. | exact ih1 .. | exact ih2 .. | exact ih3 .. | exact spec_l1Sum.mono .. | exact LeO.none .. | refine LeO.ite ?_ ?_ | refine LeO.bind ?_ (fun _ => ?_)
  ·
   intro y0 y1
   unfold spec_ShaMac.j1
   repeat' first | (with_reducible first | exact ih0 .. | exact ih1 .. | exact ih2 .. | exact ih3 .. | exact spec_l1Sum.mono .. | exact LeO.refl .. | exact LeO.none .. | refine LeO.ite ?_ ?_ | refine LeO.bind ?_ (fun _ => ?_)) | exact ih0 .. | exact ih1 .. | exact ih2 .. | exact ih3 .. | exact spec_l1Sum.mono .. | exact LeO.none .. | refine LeO.ite ?_ ?_ | refine LeO.bind ?_ (fun _ => ?_)
  ·
   intro y0 y1
   unfold spec_ShaMac.l0
   repeat' first | (with_reducible first | exact ih0 .. | exact ih1 .. | exact ih2 .. | exact ih3 .. | exact spec_l1Sum.mono .. | exact LeO.refl .. | exact LeO.none .. | refine LeO.ite ?_ ?_ | refine LeO.bind ?_ (fun _ => ?_)) | exact ih0 .. | exact ih1 .. | exact ih2 .. | exact ih3 .. | exact spec_l1Sum.mono .. | exact LeO.none .. | refine LeO.ite ?_ ?_ | refine LeO.bind ?_ (fun _ => ?_)
  ·
   intro y0 y1 y2 y3 y4
   unfold spec_ShaMac.l1
   repeat' first | (with_reducible first | exact ih0 .. | exact ih1 .. | exact ih2 .. | exact ih3 .. | exact spec_l1Sum.mono .. | exact LeO.refl .. | exact LeO.none .. | refine LeO.ite ?_ ?_ | refine LeO.bind ?_ (fun _ => ?_)) | exact ih0 .. | exact ih1 .. | exact ih2 .. | exact ih3 .. | exact spec_l1Sum.mono .. | exact LeO.none .. | refine LeO.ite ?_ ?_ | refine LeO.bind ?_ (fun _ => ?_)
theorem spec_ShaMac.mono : ∀ a0 a1 k, LeO (spec_ShaMac.f k a0 a1) (spec_ShaMac.f (k + 1) a0 a1) := by
 intro a0 a1 k
 obtain ⟨ih0, ih1, ih2, ih3⟩ := spec_ShaMac.mono_l k
 unfold spec_ShaMac.f
 repeat' first | (with_reducible first | exact ih0 .. | exact ih1 .. | exact ih2 .. | exact ih3 .. | exact spec_l1Sum.mono .. | exact LeO.refl .. | exact LeO.none .. | refine LeO.ite ?_ ?_ | refine LeO.bind ?_ (fun _ => ?_)) | exact ih0 .. | exact ih1 .. | exact ih2 .. | exact ih3 .. | exact spec_l1Sum.mono .. | exact LeO.none .. | refine LeO.ite ?_ ?_ | refine LeO.bind ?_ (fun _ => ?_)
set_option maxHeartbeats 8000000 in
set_option maxRecDepth 100000 in
theorem spec_ShaMac.calls (k : Nat) (A0 : Option Addr) (c0 : Nat) (l0 : List Int) (A1 : Option Addr) (c1 : Nat) (l1 : List Int) (r : List Int) (w : World) (hr0 : Kd.C (Kd.int .u8) w A0 l0.length l0) (hc0 : l0.length ≤ c0) (hr1 : Kd.C (Kd.int .u8) w A1 l1.length l1) (hc1 : l1.length ≤ c1) (h : spec_ShaMac.f k l0 l1 = some r) :
  Calls Tryd.prog 17 #[.slice A0 l0.length c0, .slice A1 l1.length c1] w fun e w' => ∃ v0_ : Value, e = .returned (v0_) ∧ Kd.R (Kd.int .u8) 5 w' w.heap.size (fun _ => True) v0_ r ∧ Below w.heap.size w w' := by
 have HR0 := yaa hr0; have HC0 := yaa hc0; clear hr0 hc0; have HR1 := yaa hr1; have HC1 := yaa hc1; clear hr1 hc1; have HB := yaa (Below.refl w.heap.size w); have H : (if (l0.length : Int) > 500 then (spec_ShaMac.j0 k l0 l1 true) else (spec_ShaMac.j0 k l0 l1 (decide ((l1.length : Int) > 500)))) = some r := h; clear h; have HC3 := yaa H; clear H
 go_enter Tryd.func17, Tryd.ntmps17
 go_upto_region 1 with (fail)
 go_cut [16] (fun v16 wc => ∃ (kq : Nat) (b9 : Bool), v16 = .bool b9 ∧ Aside0 (spec_ShaMac.j0 kq l0 l1 b9 = some r) ∧ Aside0 (kq ≤ k) ∧ Aside0 (Below w.heap.size w wc))
 case first =>
  have H := HC3.out; clear HC3
  by_cases c4 : (l0.length : Int) > 500
  ·
   rw [if_pos c4] at H
   have b3 : decide (500 < (l0.length : Int)) = true := decide_eq_true c4; have c9 : decide (500 < l0.length) = true := decide_eq_true (by omega); clear c4
   (first | rw [b3] | (simp only [i64_w, i32_w]; rw [b3]) | skip)
   have H' := yaa H; clear H
   go_wp2
   go_meet
   case rel => exact ⟨_, (true), (by first | rfl | (simp; done) | (simp [*]; done)), H', ⟨by first | omega | exact Nat.le_refl _⟩, ⟨upH HB.out⟩⟩
  ·
   rw [if_neg c4] at H
   have b3 : decide (500 < (l0.length : Int)) = false := decide_eq_false c4; have c9 : decide (500 < l0.length) = false := decide_eq_false (by omega); clear c4
   (first | rw [b3] | (simp only [i64_w, i32_w]; rw [b3]) | skip)
   have H' := yaa H; clear H
   go_wp2
   go_meet
   case rel => exact ⟨_, (decide ((l1.length : Int) > 500)), (by first | rfl | (simp; done) | (simp [*]; done)), H', ⟨by first | omega | exact Nat.le_refl _⟩, ⟨upH HB.out⟩⟩
 case rest =>
  clear HC3; (try clear c1); (try clear p2); (try clear c4); (try clear b3); (try clear c9); obtain ⟨kq, b9, rfl, HA, HJ2, HB⟩ := hcut
  cases kq with
  | zero => exact absurd HA.out (by simp [spec_ShaMac.j0])
  | succ kj2 =>
   have H := HA.out; clear HA
   simp only [spec_ShaMac.j0] at H
   by_cases c5 : b9 = true
   ·
    subst c5
    rw [if_pos rfl] at H
    obtain ⟨y101, hy101⟩ : ∃ y_ : List Int, y_ = (([] : List Int)) := ⟨_, rfl⟩
    replace H : (some y101) = some r := by first | (rw [hy101]; with_reducible exact H) | (have H2_ := (Option.bind_some _ _).symm.trans H; rw [hy101]; with_reducible exact H2_) | (have H2_ := (Option.bind_some _ _).symm.trans H; with_reducible exact H2_) | with_reducible exact H | (rw [hy101]; exact H) | exact H
    have Ny101 := yaa hy101; clear hy101; obtain rfl := Option.some.inj H
    go_wp2_with (first | ((with_reducible refine gd_ 17 rfl ?_); (try (refine gate_guard (by rfl) ?_; dsimp only)); refine Kd.R_lit (Kd.int .u8) _ 5 ?hg (N := 17) ?hd (xs := ([] : List Int)) (inner := []) (ok := fun _ => True) (okp := fun _ => True) ?hr ?hp (fun _ hk => hk) trivial (Below.refl _ _) (Nat.le_refl _) (by simp) ?_; (case hd => rfl); (case hg => rfl); (case hr => first | (go_simp; done) | (go_simp; rfl)); (case hp => exact (Reps.none _ _)); intro g7 w6 ho7 hb hg_ hnew_; clear hg_ hnew_; (first | rw [← Ny101.out] at ho7 | (simp only [Int.reduceToNat] at ho7; rw [← Ny101.out] at ho7)); have d6 := yaa (Kd.R_lower ho7 (below_size (upH HB.out))); replace HB := yaa (below_step (upH HB.out) hb); clear hb ho7))
    go_ret
    exact ⟨_, by first | rfl | (simp [*, errW_none, errW_some] <;> rfl), by first | exact d6.out | exact upR d6.out, upH HB.out⟩
   ·
    replace c5 := Bool.eq_false_iff.mpr c5
    subst c5
    rw [if_neg (show ¬ (false = true) by decide)] at H
    obtain ⟨y104, hy104, H⟩ := bindY H; (try dsimp only at H); have Ny104 := yaa hy104; clear hy104
    by_cases c8 : y104.length + l0.length < 140737488355328
    ·
     rw [if_pos c8] at H
     have LMc8 := yaa c8; clear c8; obtain ⟨y107, hy107⟩ : ∃ y_ : List Int, y_ = (y104 ++ l0) := ⟨_, rfl⟩
     replace H : (if (y107.length : Int) > 64 then ((spec_l1Sum.f kj2 y107).bind fun d1 => (spec_ShaMac.j1 kj2 l1 d1)) else (spec_ShaMac.j1 kj2 l1 y107)) = some r := by first | (rw [hy107]; with_reducible exact H) | (have H2_ := (Option.bind_some _ _).symm.trans H; rw [hy107]; with_reducible exact H2_) | (have H2_ := (Option.bind_some _ _).symm.trans H; with_reducible exact H2_) | with_reducible exact H | (rw [hy107]; exact H) | exact H
     have Ny107 := yaa hy107; clear hy107; have HC9 := yaa H; clear H
     go_upto_if 23 with (first | ((with_reducible refine gd_ 18 rfl ?_); (try (refine gate_guard (by rfl) ?_; dsimp only)); refine Kd.R_lit (Kd.int .u8) _ 5 ?hg (N := 18) ?hd (xs := ([] : List Int)) (inner := []) (ok := fun _ => True) (okp := fun _ => True) ?hr ?hp (fun _ hk => hk) trivial (Below.refl _ _) (Nat.le_refl _) (by simp) ?_; (case hd => rfl); (case hg => rfl); (case hr => first | (go_simp; done) | (go_simp; rfl)); (case hp => exact (Reps.none _ _)); intro f1 w10 d0 hb hg_ hnew_; clear hg_ hnew_; (first | rw [← Ny104.out] at d0 | (simp only [Int.reduceToNat] at d0; rw [← Ny104.out] at d0)); have d7 := yaa (Kd.R_lower d0 (below_size (upH HB.out))); replace HB := yaa (below_step (upH HB.out) hb); clear hb d0) | ((with_reducible refine gate_builtin (b := .append) (xs := #[.tmp 18, .tmp 19]) rfl ?_); (try (refine gate_guard (by rfl) ?_; dsimp only)); at_builtin; refine Kd.R_append_rows (Kd.int .u8) (w0 := w) w.heap.size rfl (.tmp 18) (.tmp 19) 22 5 (.int .u8 0) 1 rfl Tryd.underlying22 info5 rfl (by decide) (by omega) f1 y104 l0 _ _ _ (fun _ => True) (fun _ => False) rfl rfl ?aO ?aR (fun _ _ h => h) (fun _ h => h.elim) ?aF ?aB ?aS ?aL ?_; (case aR => repeat (first | exact (Kd.C_below HR0.out HB.out) | (with_reducible refine Kd.C_alloc ?_ _) | (with_reducible refine Kd.C_drewN ?_ _) | (with_reducible refine Kd.C_drew ?_))); (case aB => exact (upH HB.out)); (case aF => exact (fun _ _ => trivial)); (case aO => exact (upR d7.out)); (case aS => exact (below_size (upH HB.out))); (case aL => have := LMc8.out; omega); intro g8 w12 ho hb hg hat; rw [← Ny107.out] at ho; replace HB := yaa (hb); have a7 := yaa (ho); clear d7; clear ho hb hg hat; obtain ⟨f2, f3, f4⟩ := Kd.R_slice a7.out; subst f4))
     (try simp only [Act.put, List.setIfInBounds_toArray, List.set_cons_zero, List.set_cons_succ])
     go_cut [5] (fun v5 wc => ∃ (kq : Nat) (d2 : List Int), Aside0 (spec_ShaMac.j1 kq l1 d2 = some r) ∧ Aside0 (kq ≤ kj2) ∧ Aside0 (Kd.R (Kd.int .u8) 5 wc w.heap.size (fun _ => True) v5 d2) ∧ Aside0 (Below w.heap.size w wc))
     case first =>
      have H := HC9.out; clear HC9
      by_cases c14 : (y107.length : Int) > 64
      ·
       rw [if_pos c14] at H
       have a8 : decide (64 < (y107.length : Int)) = true := decide_eq_true c14; have c3 : decide (64 < y107.length) = true := decide_eq_true (by omega); clear c14
       (first | rw [a8] | (simp only [i64_w, i32_w]; rw [a8]) | skip)
       obtain ⟨d1, A15, H⟩ := bindA H; (try dsimp only at H); have H' := yaa H; clear H
       go_wp2_with (first | ((with_reducible refine gc_ 20 rfl ?_); refine gl_ (some 25) rfl Tryd.func20 #[.slice f2 y107.length f3] ?_; (with_reducible refine (spec_l1Sum.calls kj2 _ _ y107 d1 _ ?side1 ?side2 A15.out).mono ?_); (case side1 => repeat (first | exact (Kd.R_reads' a7.out).2.2 | (with_reducible refine Kd.C_alloc ?_ _) | (with_reducible refine Kd.C_drewN ?_ _) | (with_reducible refine Kd.C_drew ?_))); (case side2 => exact (Kd.R_reads' a7.out).2.1); rintro e w16 ⟨g9, rfl, ho0, hb⟩; refine ⟨_, rfl, ?_⟩; have e4 := yaa (Kd.R_lower (Kd.R_new' ho0 (Kd.R_lt (upR a7.out))) (below_size (upH HB.out))); replace a7 := yaa (Kd.R_elder' (upR a7.out) (Kd.R_base ho0) hb); replace HB := yaa (below_step (upH HB.out) hb); (try clear hb ho0)))
       go_meet
       case rel => exact ⟨_, (d1), H', ⟨by have := HJ2.out; first | omega | exact Nat.le_refl _⟩, ⟨by (with_reducible repeat (first | apply Kd.R_alloc | apply Kd.R_drewN | apply Kd.R_drew)); exact Kd.R_mono e4.out (fun _ hk => trivial)⟩, ⟨upH HB.out⟩⟩
      ·
       rw [if_neg c14] at H
       have a8 : decide (64 < (y107.length : Int)) = false := decide_eq_false c14; have c3 : decide (64 < y107.length) = false := decide_eq_false (by omega); clear c14
       (first | rw [a8] | (simp only [i64_w, i32_w]; rw [a8]) | skip)
       have H' := yaa H; clear H
       go_wp2
       go_meet
       case rel => exact ⟨_, (y107), H', ⟨by have := HJ2.out; first | omega | exact Nat.le_refl _⟩, ⟨by first | exact a7.out | exact upR a7.out⟩, ⟨upH HB.out⟩⟩
     case rest =>
      clear HC9; (try clear c1); (try clear c2); (try clear p2); (try clear c4); (try clear b3); (try clear c9); (try clear c5); (try clear c8); (try clear c14); (try clear a8); (try clear c3); (try clear p2); obtain ⟨kq, d2, HA, HJ8, a3, HB⟩ := hcut
      cases kq with
      | zero => exact absurd HA.out (by simp [spec_ShaMac.j1])
      | succ kj8 =>
       have H := HA.out; clear HA
       simp only [spec_ShaMac.j1] at H
       have H' := yaa H; clear H
       go_wp2
       (try simp only [Act.put, List.setIfInBounds_toArray, List.set_cons_zero, List.set_cons_succ])
       go_loopg [5] kj8 (fun kq v5 w' => ∃ (a2 : List Int), Aside0 (spec_ShaMac.l0 kq l1 a2 = some r) ∧ Aside0 (kq ≤ kj8) ∧ Aside0 (Kd.R (Kd.int .u8) 5 w' w.heap.size (fun _ => True) v5 a2) ∧ Aside0 (Below w.heap.size w w'))
       case atStart => exact ⟨(d2), H', ⟨Nat.le_refl _⟩, ⟨by first | exact a3.out | exact upR a3.out⟩, ⟨upH HB.out⟩⟩
       case round =>
        clear H'; (try clear c1); (try clear c2); (try clear p2); (try clear c4); (try clear b3); (try clear c9); (try clear c5); (try clear c8); (try clear c14); (try clear a8); (try clear c3); (try clear p2); obtain ⟨a2, HA, HK3, a3, HB⟩ := hrel
        cases gk with
        | zero => exact absurd HA.out (by simp [spec_ShaMac.l0])
        | succ k3 =>
         have H := HA.out; clear HA
         simp only [spec_ShaMac.l0] at H
         by_cases c17 : (a2.length : Int) < 64
         ·
          rw [if_pos c17] at H
          have d8 : decide ((a2.length : Int) < 64) = true := decide_eq_true c17; have d9 : decide (a2.length < 64) = true := decide_eq_true (by omega); clear c17
          by_cases c18 : a2.length < 140737488355328
          ·
           rw [if_pos c18] at H
           have LMc18 := yaa c18; clear c18; obtain ⟨y113, hy113⟩ : ∃ y_ : List Int, y_ = (a2 ++ [0]) := ⟨_, rfl⟩
           replace H : (spec_ShaMac.l0 k3 l1 y113) = some r := by first | (rw [hy113]; with_reducible exact H) | (have H2_ := (Option.bind_some _ _).symm.trans H; rw [hy113]; with_reducible exact H2_) | (have H2_ := (Option.bind_some _ _).symm.trans H; with_reducible exact H2_) | with_reducible exact H | (rw [hy113]; exact H) | exact H
           have Ny113 := yaa hy113; clear hy113; have H' := yaa H; clear H; obtain ⟨f5, f6, f7⟩ := Kd.R_slice a3.out; subst f7
           go_wp2_with (first | ((with_reducible refine gate_builtin (b := .append) (xs := #[.tmp 29, .tmp 30]) rfl ?_); (try (refine gate_guard (by rfl) ?_; dsimp only)); at_builtin; refine Kd.R_append (Kd.int .u8) (w0 := w) w.heap.size rfl (.tmp 29) (.tmp 30) 22 5 (.int .u8 0) 1 rfl Tryd.underlying22 info5 rfl (by decide) (by omega) (.slice f5 a2.length f6) a2 0 [.int .u8 0] (fun _ => True) (fun _ => False) rfl rfl ?aP (fun _ hk => hk.elim) ?aF ?aO ?aB ?aS ?aL ?_; (case aP => exact rfl); (case aB => exact (upH HB.out)); (case aF => exact (fun _ _ => trivial)); (case aO => exact (upR a3.out)); (case aS => exact (below_size (upH HB.out))); (case aL => have := LMc18.out; omega); intro h0 w20 ho hb hg hat; rw [← Ny113.out] at ho; replace HB := yaa (hb); have e0 := yaa (ho); clear a3; clear ho hb hg hat))
           go_roundg k3
           case measure => have := HJ2.out; have := HJ8.out; have := HK3.out; omega
           case rel => exact ⟨(y113), H', ⟨by have := HJ2.out; have := HJ8.out; have := HK3.out; omega⟩, ⟨by first | exact e0.out | exact upR e0.out⟩, ⟨upH HB.out⟩⟩
          ·
           rw [if_neg c18] at H
           exact absurd H (by simp)
         ·
          rw [if_neg c17] at H
          have d8 : decide ((a2.length : Int) < 64) = false := decide_eq_false c17; have d9 : decide (a2.length < 64) = false := decide_eq_false (by omega); clear c17; obtain ⟨y116, hy116⟩ : ∃ y_ : List Int, y_ = (([] : List Int)) := ⟨_, rfl⟩
          replace H : (spec_ShaMac.l1 k3 l1 a2 y116 (([] : List Int)) 0) = some r := by first | (rw [hy116]; with_reducible exact H) | (have H2_ := (Option.bind_some _ _).symm.trans H; rw [hy116]; with_reducible exact H2_) | (have H2_ := (Option.bind_some _ _).symm.trans H; with_reducible exact H2_) | with_reducible exact H | (rw [hy116]; exact H) | exact H
          have Ny116 := yaa hy116; clear hy116; obtain ⟨y119, hy119⟩ : ∃ y_ : List Int, y_ = (([] : List Int)) := ⟨_, rfl⟩
          replace H : (spec_ShaMac.l1 k3 l1 a2 y116 y119 0) = some r := by first | (rw [hy119]; with_reducible exact H) | (have H2_ := (Option.bind_some _ _).symm.trans H; rw [hy119]; with_reducible exact H2_) | (have H2_ := (Option.bind_some _ _).symm.trans H; with_reducible exact H2_) | with_reducible exact H | (rw [hy119]; exact H) | exact H
          have Ny119 := yaa hy119; clear hy119; have H' := yaa H; clear H; obtain ⟨b5, b0, f8⟩ := Kd.R_slice a3.out; subst f8
          go_wp2_with (first | ((with_reducible refine gd_ 32 rfl ?_); (try (refine gate_guard (by rfl) ?_; dsimp only)); refine Kd.R_lit (Kd.int .u8) _ 5 ?hg (N := 32) ?hd (xs := ([] : List Int)) (inner := []) (ok := fun _ => True) (okp := fun _ => True) ?hr ?hp (fun _ hk => hk) trivial (Below.refl _ _) (Nat.le_refl _) (by simp) ?_; (case hd => rfl); (case hg => rfl); (case hr => first | (go_simp; done) | (go_simp; rfl)); (case hp => exact (Reps.none _ _)); intro h1 w22 c7 hb hg_ hnew_; clear hg_ hnew_; (first | rw [← Ny116.out] at c7 | (simp only [Int.reduceToNat] at c7; rw [← Ny116.out] at c7)); have c6 := yaa (Kd.R_lower (Kd.R_new' c7 (Kd.R_lt (upR a3.out))) (below_size (upH HB.out))); replace a3 := yaa (Kd.R_elder' (upR a3.out) (Kd.R_base c7) hb); replace HB := yaa (below_step (upH HB.out) hb); clear hb c7) | ((with_reducible refine gd_ 33 rfl ?_); (try (refine gate_guard (by rfl) ?_; dsimp only)); refine Kd.R_lit (Kd.int .u8) _ 5 ?hg (N := 33) ?hd (xs := ([] : List Int)) (inner := []) (ok := fun _ => True) (okp := fun _ => True) ?hr ?hp (fun _ hk => hk) trivial (Below.refl _ _) (Nat.le_refl _) (by simp) ?_; (case hd => rfl); (case hg => rfl); (case hr => first | (go_simp; done) | (go_simp; rfl)); (case hp => exact (Reps.none _ _)); intro h2 w24 b7 hb hg_ hnew_; clear hg_ hnew_; (first | rw [← Ny119.out] at b7 | (simp only [Int.reduceToNat] at b7; rw [← Ny119.out] at b7)); have e5 := yaa (Kd.R_lower (Kd.R_new' (Kd.R_new' b7 (Kd.R_lt (upR a3.out))) (Kd.R_lt (upR c6.out))) (below_size (upH HB.out))); replace a3 := yaa (Kd.R_elder' (upR a3.out) (Kd.R_base b7) hb); replace c6 := yaa (Kd.R_elder' (upR c6.out) (Kd.R_base b7) hb); replace HB := yaa (below_step (upH HB.out) hb); clear hb b7))
          (try simp only [Act.put, List.setIfInBounds_toArray, List.set_cons_zero, List.set_cons_succ])
          go_loopg [6, 7, 8] k3 (fun kq v6 v7 v8 w' => ∃ (b4 : List Int) (b1 : List Int) (a4 : Int), v8 = .int .i64 a4 ∧ Aside0 (spec_ShaMac.l1 kq l1 a2 b4 b1 a4 = some r) ∧ Aside0 (kq ≤ k3) ∧ Aside0 (Kd.R (Kd.int .u8) 5 w' w.heap.size (fun k_ => some k_ ≠ (v6 : Value).ownBlock ∧ some k_ ≠ (v7 : Value).ownBlock) (.slice b5 a2.length b0) a2) ∧ Aside0 (Kd.R (Kd.int .u8) 5 w' w.heap.size (fun k_ => some k_ ≠ ((.slice b5 a2.length b0) : Value).ownBlock ∧ some k_ ≠ (v7 : Value).ownBlock) v6 b4) ∧ Aside0 (Kd.R (Kd.int .u8) 5 w' w.heap.size (fun k_ => some k_ ≠ ((.slice b5 a2.length b0) : Value).ownBlock ∧ some k_ ≠ (v6 : Value).ownBlock) v7 b1) ∧ Aside0 (Below w.heap.size w w'))
          case atStart => exact ⟨(y116), (y119), (0), (by first | rfl | (simp; done) | (simp [*]; done)), H', ⟨Nat.le_refl _⟩, ⟨by (with_reducible repeat (first | apply Kd.R_alloc | apply Kd.R_drewN | apply Kd.R_drew)); exact Kd.R_mono a3.out (fun _ hk => ⟨hk.1.2, hk.2⟩)⟩, ⟨by (with_reducible repeat (first | apply Kd.R_alloc | apply Kd.R_drewN | apply Kd.R_drew)); exact Kd.R_mono c6.out (fun _ hk => ⟨hk.1.2, hk.2⟩)⟩, ⟨by (with_reducible repeat (first | apply Kd.R_alloc | apply Kd.R_drewN | apply Kd.R_drew)); exact Kd.R_mono e5.out (fun _ hk => ⟨hk.1.2, hk.2⟩)⟩, ⟨upH HB.out⟩⟩
          case round =>
           clear H'; (try clear c1); (try clear c2); (try clear p2); (try clear c4); (try clear b3); (try clear c9); (try clear c5); (try clear c8); (try clear c14); (try clear a8); (try clear c3); (try clear c17); (try clear d8); (try clear d9); (try clear c18); (try clear c20); (try clear p2); obtain ⟨b4, b1, a4, rfl, HA, HK4, a3, d3, a6, HB⟩ := hrel
           cases gk with
           | zero => exact absurd HA.out (by simp [spec_ShaMac.l1])
           | succ k4 =>
            have H := HA.out; clear HA
            simp only [spec_ShaMac.l1] at H
            by_cases c26 : a4 < 64
            ·
             rw [if_pos c26] at H
             have e6 : decide (a4 < 64) = true := decide_eq_true c26; clear c26
             by_cases c27 : 0 ≤ a4
             ·
              rw [if_pos c27] at H
              replace c27 := decide_eq_true c27
              by_cases c28 : a4 < (a2.length : Int)
              ·
               rw [if_pos c28] at H
               replace c28 := decide_eq_true c28
               by_cases c29 : b4.length < 140737488355328
               ·
                rw [if_pos c29] at H
                have LMc29 := yaa c29; clear c29; obtain ⟨y123, hy123⟩ : ∃ y_ : List Int, y_ = (b4 ++ [Go.bits .xor .u8 (rd a2 a4) 54]) := ⟨_, rfl⟩
                replace H : (if b1.length < 140737488355328 then (spec_ShaMac.l1 k4 l1 a2 y123 (b1 ++ [Go.bits .xor .u8 (rd a2 a4) 92]) (wrap64 (a4 + 1))) else (none)) = some r := by first | (rw [hy123]; with_reducible exact H) | (have H2_ := (Option.bind_some _ _).symm.trans H; rw [hy123]; with_reducible exact H2_) | (have H2_ := (Option.bind_some _ _).symm.trans H; with_reducible exact H2_) | with_reducible exact H | (rw [hy123]; exact H) | exact H
                have Ny123 := yaa hy123; clear hy123
                by_cases c30 : b1.length < 140737488355328
                ·
                 rw [if_pos c30] at H
                 have LMc30 := yaa c30; clear c30; obtain ⟨y127, hy127⟩ : ∃ y_ : List Int, y_ = (b1 ++ [Go.bits .xor .u8 (rd a2 a4) 92]) := ⟨_, rfl⟩
                 replace H : (spec_ShaMac.l1 k4 l1 a2 y123 y127 (wrap64 (a4 + 1))) = some r := by first | (rw [hy127]; with_reducible exact H) | (have H2_ := (Option.bind_some _ _).symm.trans H; rw [hy127]; with_reducible exact H2_) | (have H2_ := (Option.bind_some _ _).symm.trans H; with_reducible exact H2_) | with_reducible exact H | (rw [hy127]; exact H) | exact H
                 have Ny127 := yaa hy127; clear hy127; have H' := yaa H; clear H; have p122 : 0 ≤ (a4 : Int) := of_decide_eq_true (by assumption); have q122 : a4 < (a2.length : Int) := of_decide_eq_true (by assumption); obtain ⟨ad122, f9, e9⟩ := Kd.at_int (Kd.R_reads' a3.out).2.2 a4 p122 q122
                 cases f9
                 replace p122 := eq_true p122; replace q122 := eq_true q122
                 go_wp2_with (first | ((with_reducible refine gate_builtin (b := .append) (xs := #[.tmp 38, .tmp 44]) rfl ?_); (try (refine gate_guard (by rfl) ?_; dsimp only)); at_builtin; refine Kd.R_append (Kd.int .u8) (w0 := w) w.heap.size rfl (.tmp 38) (.tmp 44) 22 5 (.int .u8 0) 1 rfl Tryd.underlying22 info5 rfl (by decide) (by omega) u6 b4 (Go.bits .xor .u8 (rd a2 a4) 54) [.int .u8 (Go.bits .xor .u8 (rd a2 a4) 54)] (fun k_ => some k_ ≠ (.slice (some ad122) a2.length b0 : Value).ownBlock ∧ some k_ ≠ (u7 : Value).ownBlock) (fun _ => False) rfl rfl ?aP (fun _ hk => hk.elim) ?aF ?aO ?aB ?aS ?aL ?_; (case aP => exact rfl); (case aB => exact (upH HB.out)); (case aF => exact (fun k_ hk => ⟨Kd.fresh' (Kd.R_lt (upR a3.out)) k_ hk, Kd.fresh' (Kd.R_lt (upR a6.out)) k_ hk⟩)); (case aO => exact (upR d3.out)); (case aS => exact (below_size (upH HB.out))); (case aL => have := LMc29.out; omega); intro e7 w31 ho hb hg hat; rw [← Ny123.out] at ho; replace a3 := yaa (Kd.R_after (ok := (fun k_ => some k_ ≠ (u7 : Value).ownBlock)) (by (with_reducible repeat (first | apply Kd.R_alloc | apply Kd.R_drewN | apply Kd.R_drew)); exact Kd.R_mono a3.out (fun _ hk => ⟨hk.2, hk.1⟩)) hg hat); replace a6 := yaa (Kd.R_after (ok := (fun k_ => some k_ ≠ (.slice (some ad122) a2.length b0 : Value).ownBlock)) (upR a6.out) hg hat); replace HB := yaa (hb); have b6 := yaa (ho); clear d3; clear ho hb hg hat; have p126 : 0 ≤ (a4 : Int) := of_decide_eq_true (by assumption); have q126 : a4 < (a2.length : Int) := of_decide_eq_true (by assumption); obtain ⟨ad126, g0, f0⟩ := Kd.at_int (Kd.R_reads' a3.out).2.2 a4 p126 q126; obtain rfl : ad122 = ad126 := (by injection g0); replace p126 := eq_true p126; replace q126 := eq_true q126) | ((with_reducible refine gate_builtin (b := .append) (xs := #[.tmp 46, .tmp 52]) rfl ?_); (try (refine gate_guard (by rfl) ?_; dsimp only)); at_builtin; refine Kd.R_append (Kd.int .u8) (w0 := w) w.heap.size rfl (.tmp 46) (.tmp 52) 22 5 (.int .u8 0) 1 rfl Tryd.underlying22 info5 rfl (by decide) (by omega) u7 b1 (Go.bits .xor .u8 (rd a2 a4) 92) [.int .u8 (Go.bits .xor .u8 (rd a2 a4) 92)] (fun k_ => some k_ ≠ (.slice (some ad122) a2.length b0 : Value).ownBlock ∧ some k_ ≠ (e7 : Value).ownBlock) (fun _ => False) rfl rfl ?aP (fun _ hk => hk.elim) ?aF ?aO ?aB ?aS ?aL ?_; (case aP => exact rfl); (case aB => exact (upH HB.out)); (case aF => exact (fun k_ hk => ⟨Kd.fresh' (Kd.R_lt (upR a3.out)) k_ hk, Kd.fresh' (Kd.R_lt (upR b6.out)) k_ hk⟩)); (case aO => exact (upR a6.out)); (case aS => exact (below_size (upH HB.out))); (case aL => have := LMc30.out; omega); intro h3 w32 ho hb hg hat; rw [← Ny127.out] at ho; replace a3 := yaa (Kd.R_after (ok := (fun k_ => some k_ ≠ (e7 : Value).ownBlock)) (by (with_reducible repeat (first | apply Kd.R_alloc | apply Kd.R_drewN | apply Kd.R_drew)); exact Kd.R_mono a3.out (fun _ hk => ⟨hk.2, hk.1⟩)) hg hat); replace b6 := yaa (Kd.R_after (ok := (fun k_ => some k_ ≠ (.slice (some ad122) a2.length b0 : Value).ownBlock)) (upR b6.out) hg hat); replace HB := yaa (hb); have e1 := yaa (ho); clear a6; clear ho hb hg hat))
                 go_roundg k4
                 case measure => have := HJ2.out; have := HJ8.out; have := HK3.out; have := HK4.out; omega
                 case rel => exact ⟨(y123), (y127), (wrap64 (a4 + 1)), (by first | rfl | (simp; done) | (simp [*]; done)), H', ⟨by have := HJ2.out; have := HJ8.out; have := HK3.out; have := HK4.out; omega⟩, ⟨by first | exact a3.out | exact upR a3.out⟩, ⟨by first | exact b6.out | exact upR b6.out⟩, ⟨by first | exact e1.out | exact upR e1.out⟩, ⟨upH HB.out⟩⟩
                ·
                 rw [if_neg c30] at H
                 exact absurd H (by simp)
               ·
                rw [if_neg c29] at H
                exact absurd H (by simp)
              ·
               rw [if_neg c28] at H
               exact absurd H (by simp)
             ·
              rw [if_neg c27] at H
              exact absurd H (by simp)
            ·
             rw [if_neg c26] at H
             have e6 : decide (a4 < 64) = false := decide_eq_false c26; clear c26
             by_cases c33 : b4.length + l1.length < 140737488355328
             ·
              rw [if_pos c33] at H
              have LMc33 := yaa c33; clear c33; obtain ⟨y130, hy130⟩ : ∃ y_ : List Int, y_ = (b4 ++ l1) := ⟨_, rfl⟩
              conv at H => enter [1, 1, 2]; rw [← hy130]
              have Ny130 := yaa hy130; clear hy130; obtain ⟨b8, A34, H⟩ := bindA H; (try dsimp only at H)
              by_cases c35 : b1.length + b8.length < 140737488355328
              ·
               rw [if_pos c35] at H
               have LMc35 := yaa c35; clear c35; obtain ⟨y136, hy136⟩ : ∃ y_ : List Int, y_ = (b1 ++ b8) := ⟨_, rfl⟩
               conv at H => enter [1, 1, 2]; rw [← hy136]
               have Ny136 := yaa hy136; clear hy136; obtain ⟨g1, A36, H⟩ := bindA H; (try dsimp only at H); obtain rfl := Option.some.inj H
               go_wp2_with (first | ((with_reducible refine gate_builtin (b := .append) (xs := #[.tmp 55, .tmp 56]) rfl ?_); (try (refine gate_guard (by rfl) ?_; dsimp only)); at_builtin; refine Kd.R_append_rows (Kd.int .u8) (w0 := w) w.heap.size rfl (.tmp 55) (.tmp 56) 22 5 (.int .u8 0) 1 rfl Tryd.underlying22 info5 rfl (by decide) (by omega) u6 b4 l1 _ _ _ (fun k_ => some k_ ≠ (.slice b5 a2.length b0 : Value).ownBlock ∧ some k_ ≠ (u7 : Value).ownBlock) (fun _ => False) rfl rfl ?aO ?aR (fun _ _ h => h) (fun _ h => h.elim) ?aF ?aB ?aS ?aL ?_; (case aR => repeat (first | exact (Kd.C_below HR1.out HB.out) | (with_reducible refine Kd.C_alloc ?_ _) | (with_reducible refine Kd.C_drewN ?_ _) | (with_reducible refine Kd.C_drew ?_))); (case aB => exact (upH HB.out)); (case aF => exact (fun k_ hk => ⟨Kd.fresh' (Kd.R_lt (upR a3.out)) k_ hk, Kd.fresh' (Kd.R_lt (upR a6.out)) k_ hk⟩)); (case aO => exact (upR d3.out)); (case aS => exact (below_size (upH HB.out))); (case aL => have := LMc33.out; omega); intro h4 w37 ho hb hg hat; rw [← Ny130.out] at ho; replace a3 := yaa (Kd.R_after (ok := (fun k_ => some k_ ≠ (u7 : Value).ownBlock)) (by (with_reducible repeat (first | apply Kd.R_alloc | apply Kd.R_drewN | apply Kd.R_drew)); exact Kd.R_mono a3.out (fun _ hk => ⟨hk.2, hk.1⟩)) hg hat); replace a6 := yaa (Kd.R_after (ok := (fun k_ => some k_ ≠ (.slice b5 a2.length b0 : Value).ownBlock)) (upR a6.out) hg hat); replace HB := yaa (hb); have a5 := yaa (ho); clear d3; clear ho hb hg hat; obtain ⟨d4, d5, g2⟩ := Kd.R_slice a5.out; subst g2) | ((with_reducible refine gc_ 20 rfl ?_); refine gl_ (some 58) rfl Tryd.func20 #[.slice d4 y130.length d5] ?_; (with_reducible refine (spec_l1Sum.calls k4 _ _ y130 b8 _ ?side1 ?side2 A34.out).mono ?_); (case side1 => repeat (first | exact (Kd.R_reads' a5.out).2.2 | (with_reducible refine Kd.C_alloc ?_ _) | (with_reducible refine Kd.C_drewN ?_ _) | (with_reducible refine Kd.C_drew ?_))); (case side2 => exact (Kd.R_reads' a5.out).2.1); rintro e w39 ⟨h5, rfl, ho0, hb⟩; refine ⟨_, rfl, ?_⟩; have a9 := yaa (Kd.R_lower (Kd.R_new' (Kd.R_new' (Kd.R_new' ho0 (Kd.R_lt (upR a3.out))) (Kd.R_lt (upR a6.out))) (Kd.R_lt (upR a5.out))) (below_size (upH HB.out))); replace a3 := yaa (Kd.R_elder' (upR a3.out) (Kd.R_base ho0) hb); replace a6 := yaa (Kd.R_elder' (upR a6.out) (Kd.R_base ho0) hb); replace a5 := yaa (Kd.R_elder' (upR a5.out) (Kd.R_base ho0) hb); replace HB := yaa (below_step (upH HB.out) hb); (try clear hb ho0); obtain ⟨e2, e3, g3⟩ := Kd.R_slice a9.out; subst g3) | ((with_reducible refine gate_builtin (b := .append) (xs := #[.tmp 54, .tmp 58]) rfl ?_); (try (refine gate_guard (by rfl) ?_; dsimp only)); at_builtin; refine Kd.R_append_rows (Kd.int .u8) (w0 := w) w.heap.size rfl (.tmp 54) (.tmp 58) 22 5 (.int .u8 0) 1 rfl Tryd.underlying22 info5 rfl (by decide) (by omega) u7 b1 b8 _ _ _ (fun k_ => some k_ ≠ (.slice b5 a2.length b0 : Value).ownBlock ∧ some k_ ≠ (.slice d4 y130.length d5 : Value).ownBlock ∧ some k_ ≠ (.slice e2 b8.length e3 : Value).ownBlock) (fun _ => False) rfl rfl ?aO ?aR (fun _ _ h => h) (fun _ h => h.elim) ?aF ?aB ?aS ?aL ?_; (case aR => repeat (first | exact (Kd.R_reads' a9.out).2.2 | (with_reducible refine Kd.C_alloc ?_ _) | (with_reducible refine Kd.C_drewN ?_ _) | (with_reducible refine Kd.C_drew ?_))); (case aB => exact (upH HB.out)); (case aF => exact (fun k_ hk => ⟨Kd.fresh' (Kd.R_lt (upR a3.out)) k_ hk, Kd.fresh' (Kd.R_lt (upR a5.out)) k_ hk, Kd.fresh' (Kd.R_lt (upR a9.out)) k_ hk⟩)); (case aO => exact (by (with_reducible repeat (first | apply Kd.R_alloc | apply Kd.R_drewN | apply Kd.R_drew)); exact Kd.R_mono a6.out (fun _ hk => ⟨hk.1.1, ⟨hk.1.2, hk.2⟩⟩))); (case aS => exact (below_size (upH HB.out))); (case aL => have := LMc35.out; omega); intro h6 w40 ho hb hg hat; rw [← Ny136.out] at ho; replace a3 := yaa (Kd.R_after (ok := (fun k_ => some k_ ≠ (.slice d4 y130.length d5 : Value).ownBlock ∧ some k_ ≠ (.slice e2 b8.length e3 : Value).ownBlock)) (by (with_reducible repeat (first | apply Kd.R_alloc | apply Kd.R_drewN | apply Kd.R_drew)); exact Kd.R_mono a3.out (fun _ hk => ⟨⟨hk.1.2, hk.2⟩, hk.1.1⟩)) hg hat); replace a5 := yaa (Kd.R_after (ok := (fun k_ => some k_ ≠ (.slice b5 a2.length b0 : Value).ownBlock ∧ some k_ ≠ (.slice e2 b8.length e3 : Value).ownBlock)) (by (with_reducible repeat (first | apply Kd.R_alloc | apply Kd.R_drewN | apply Kd.R_drew)); exact Kd.R_mono a5.out (fun _ hk => ⟨⟨hk.1.1, hk.2⟩, hk.1.2⟩)) hg hat); replace a9 := yaa (Kd.R_after (ok := (fun k_ => some k_ ≠ (.slice b5 a2.length b0 : Value).ownBlock ∧ some k_ ≠ (.slice d4 y130.length d5 : Value).ownBlock)) (by (with_reducible repeat (first | apply Kd.R_alloc | apply Kd.R_drewN | apply Kd.R_drew)); exact Kd.R_mono a9.out (fun _ hk => ⟨⟨hk.1.1.2, hk.2⟩, hk.1.2⟩)) hg hat); replace HB := yaa (hb); have b2 := yaa (ho); clear a6; clear ho hb hg hat; obtain ⟨g4, g5, g6⟩ := Kd.R_slice b2.out; subst g6) | ((with_reducible refine gc_ 20 rfl ?_); refine gl_ (some 60) rfl Tryd.func20 #[.slice g4 y136.length g5] ?_; (with_reducible refine (spec_l1Sum.calls k4 _ _ y136 g1 _ ?side1 ?side2 A36.out).mono ?_); (case side1 => repeat (first | exact (Kd.R_reads' b2.out).2.2 | (with_reducible refine Kd.C_alloc ?_ _) | (with_reducible refine Kd.C_drewN ?_ _) | (with_reducible refine Kd.C_drew ?_))); (case side2 => exact (Kd.R_reads' b2.out).2.1); rintro e w43 ⟨h7, rfl, ho0, hb⟩; refine ⟨_, rfl, ?_⟩; have e8 := yaa (Kd.R_lower (Kd.R_new' (Kd.R_new' (Kd.R_new' (Kd.R_new' ho0 (Kd.R_lt (upR a3.out))) (Kd.R_lt (upR a5.out))) (Kd.R_lt (upR a9.out))) (Kd.R_lt (upR b2.out))) (below_size (upH HB.out))); replace a3 := yaa (Kd.R_elder' (upR a3.out) (Kd.R_base ho0) hb); replace a5 := yaa (Kd.R_elder' (upR a5.out) (Kd.R_base ho0) hb); replace a9 := yaa (Kd.R_elder' (upR a9.out) (Kd.R_base ho0) hb); replace b2 := yaa (Kd.R_elder' (upR b2.out) (Kd.R_base ho0) hb); replace HB := yaa (below_step (upH HB.out) hb); (try clear hb ho0)))
               go_ret
               exact ⟨_, by first | rfl | (simp [*, errW_none, errW_some] <;> rfl), by (with_reducible repeat (first | apply Kd.R_alloc | apply Kd.R_drewN | apply Kd.R_drew)); exact Kd.R_mono e8.out (fun _ hk => trivial), upH HB.out⟩
              ·
               rw [if_neg c35] at H
               exact absurd H (by simp)
             ·
              rw [if_neg c33] at H
              exact absurd H (by simp)
    ·
     rw [if_neg c8] at H
     exact absurd H (by simp)
end
section
def spec_ShaSum.f (k : Nat) (l0 : List Int) : Option (List Int) := if (l0.length : Int) > 500 then (some (([] : List Int))) else ((spec_l1Sum.f k l0).bind fun t104 => (some t104))
theorem spec_ShaSum.mono : ∀ a0 k, LeO (spec_ShaSum.f k a0) (spec_ShaSum.f (k + 1) a0) := by
  intro a0 k
  unfold spec_ShaSum.f
  repeat' first | (with_reducible first | exact spec_l1Sum.mono .. | exact LeO.refl .. | exact LeO.none .. | refine LeO.ite ?_ ?_ | refine LeO.bind ?_ (fun _ => ?_)) | exact spec_l1Sum.mono .. | exact LeO.none .. | refine LeO.ite ?_ ?_ | refine LeO.bind ?_ (fun _ => ?_)
set_option maxHeartbeats 8000000 in
set_option maxRecDepth 100000 in
theorem spec_ShaSum.calls (k : Nat) (A0 : Option Addr) (c0 : Nat) (l0 : List Int) (r : List Int) (w : World) (hr0 : Kd.C (Kd.int .u8) w A0 l0.length l0) (hc0 : l0.length ≤ c0) (h : spec_ShaSum.f k l0 = some r) :
    Calls Tryd.prog 8 #[.slice A0 l0.length c0] w fun e w' => ∃ v0_ : Value, e = .returned (v0_) ∧ Kd.R (Kd.int .u8) 5 w' w.heap.size (fun _ => True) v0_ r ∧ Below w.heap.size w w' := by
  have HR0 := Aside0.mk hr0; have HC0 := Aside0.mk hc0; clear hr0 hc0; have HB := Aside0.mk (Below.refl w.heap.size w); have H : (if (l0.length : Int) > 500 then (some (([] : List Int))) else ((spec_l1Sum.f k l0).bind fun t104 => (some t104))) = some r := h; clear h
  by_cases c2 : (l0.length : Int) > 500
  · rw [if_pos c2] at H
    have c2b0 : decide (500 < (l0.length : Int)) = true := decide_eq_true c2; have c2b1 : decide (500 < l0.length) = true := decide_eq_true (by omega); clear c2; obtain ⟨y101, hy101⟩ : ∃ y_ : List Int, y_ = (([] : List Int)) := ⟨_, rfl⟩
    replace H : (some y101) = some r := by first | (rw [hy101]; with_reducible exact H) | (have H2_ := (Option.bind_some _ _).symm.trans H; rw [hy101]; with_reducible exact H2_) | (have H2_ := (Option.bind_some _ _).symm.trans H; with_reducible exact H2_) | with_reducible exact H | (rw [hy101]; exact H) | exact H
    have Ny101 := Aside0.mk hy101; clear hy101; obtain rfl := Option.some.inj H
    go_enter Tryd.func8, Tryd.ntmps8
    go_wp2_with (first | ((with_reducible refine gd_ 6 rfl ?_); refine Kd.R_lit (Kd.int .u8) _ 5 ?hg (N := 6) ?hd (xs := ([] : List Int)) (inner := []) (ok := fun _ => True) (okp := fun _ => True) ?hr ?hp (fun _ hk => hk) trivial (Below.refl _ _) (Nat.le_refl _) (by simp) ?_; (case hd => rfl); (case hg => rfl); (case hr => first | (go_simp; done) | (go_simp; rfl)); (case hp => exact (Reps.none _ _)); intro v102 w3 ho4 hb hg_ hnew_; clear hg_ hnew_; (first | rw [← Ny101.out] at ho4 | (simp only [Int.reduceToNat] at ho4; rw [← Ny101.out] at ho4)); have HO103 := Aside0.mk (Kd.R_lower ho4 (below_size (upH HB.out))); replace HB := Aside0.mk (below_step (upH HB.out) hb); clear hb ho4))
    go_ret
    exact ⟨_, by first | rfl | (simp [*, errW_none, errW_some] <;> rfl), by first | exact HO103.out | exact upR HO103.out, upH HB.out⟩
  · rw [if_neg c2] at H
    have c2b0 : decide (500 < (l0.length : Int)) = false := decide_eq_false c2; have c2b1 : decide (500 < l0.length) = false := decide_eq_false (by omega); clear c2; obtain ⟨t104, A5, H⟩ := bindA H; (try dsimp only at H); obtain rfl := Option.some.inj H
    go_enter Tryd.func8, Tryd.ntmps8
    go_wp2_with (first | ((with_reducible refine gc_ 20 rfl ?_); refine gl_ (some 8) rfl Tryd.func20 #[.slice A0 l0.length c0] ?_; (with_reducible refine (spec_l1Sum.calls k _ _ l0 t104 _ ?side1 ?side2 A5.out).mono ?_); (case side1 => repeat (first | exact HR0.out | (with_reducible refine Kd.C_alloc ?_ _) | (with_reducible refine Kd.C_drewN ?_ _) | (with_reducible refine Kd.C_drew ?_))); (case side2 => exact HC0.out); rintro e w6 ⟨v105, rfl, ho0, hb⟩; refine ⟨_, rfl, ?_⟩; have HO106 := Aside0.mk (Kd.R_lower ho0 (below_size (upH HB.out))); replace HB := Aside0.mk (below_step (upH HB.out) hb); (try clear hb ho0)))
    go_ret
    exact ⟨_, by first | rfl | (simp [*, errW_none, errW_some] <;> rfl), by first | exact HO106.out | exact upR HO106.out, upH HB.out⟩
end
end Go.Proofs.YtfinaphomgdmlaaDoor.X
