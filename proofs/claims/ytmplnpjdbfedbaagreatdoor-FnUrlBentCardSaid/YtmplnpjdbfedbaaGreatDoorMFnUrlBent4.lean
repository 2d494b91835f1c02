/- Lemmas and contracts for the law FnUrlBent, part 4: of the program's functions, and over data alone. Conditions: the listed package-level variables begin as the program's text lays them (tied by the card). -/
import Derived.Test.YtmplnpjdbfedbaaGreatDoorMFnUrlBent2
import Derived.Test.YtmplnpjdbfedbaaGreatDoorMFnUrlBent3
namespace Go.Proofs.YtmplnpjdbfedbaaGreatDoor.X
open Go.RowKit Go.Proofs.YtmplnpjdbfedbaaGreatDoorW.PrintWords Go.Proofs.YtmplnpjdbfedbaaGreatDoorW.PrintLast Go.Proofs.YtmplnpjdbfedbaaGreatDoorW.PrintMore
attribute [local go_sem] max2_int min2_int max_two min_two max_three min_three max_four min_four
set_option linter.unusedVariables false
set_option linter.unusedSimpArgs false
section
open Go.Proofs.YtmplnpjdbfedbaaGreatDoorW.PrintWords.Aside0 renaming mk → yaa
abbrev q100_0 : Array Bool := Array.replicate 37 false
abbrev q100_1 : Array Bool := bl_ 37 1
abbrev q100_2 : Array Bool := bl_ 37 3
abbrev q100_3 : Array Bool := bl_ 37 7
abbrev q100_4 : Array Bool := bl_ 37 15
abbrev q100_5 : Array Bool := bl_ 37 31
abbrev q100_6 : Array Bool := bl_ 37 287
abbrev q100_7 : Array Bool := bl_ 37 799
abbrev q100_8 : Array Bool := bl_ 37 1823
abbrev q100_9 : Array Bool := bl_ 37 3871
abbrev q100_10 : Array Bool := bl_ 37 7967
abbrev q100_11 : Array Bool := bl_ 37 139039
abbrev q100_12 : Array Bool := bl_ 37 401183
abbrev q100_13 : Array Bool := bl_ 37 925471
abbrev q100_14 : Array Bool := bl_ 37 1974047
abbrev q100_15 : Array Bool := bl_ 37 4071199
abbrev q100_16 : Array Bool := bl_ 37 71180063
abbrev q100_17 : Array Bool := bl_ 37 205397791
abbrev q100_18 : Array Bool := bl_ 37 473833247
abbrev q100_19 : Array Bool := bl_ 37 1010704159
abbrev q100_20 : Array Bool := bl_ 37 2084445983
abbrev q100_21 : Array Bool := bl_ 37 2084446015
abbrev q100_22 : Array Bool := bl_ 37 2084446079
abbrev q100_23 : Array Bool := bl_ 37 2084446207
abbrev q100_24 : Array Bool := bl_ 37 2084454399
abbrev q100_25 : Array Bool := bl_ 37 2084470783
abbrev q100_26 : Array Bool := bl_ 37 2084503551
abbrev q100_27 : Array Bool := bl_ 37 2084569087
abbrev q100_28 : Array Bool := bl_ 37 2088763391
abbrev q100_29 : Array Bool := bl_ 37 2097151999
abbrev q100_30 : Array Bool := bl_ 37 2113929215
abbrev q100_31 : Array Bool := bl_ 37 2147483647
abbrev q100_32 : Array Bool := bl_ 37 4294967295
abbrev q100_33 : Array Bool := bl_ 37 8589934591
abbrev q100_34 : Array Bool := bl_ 37 17179869183
abbrev q100_35 : Array Bool := bl_ 37 34359738367
abbrev q100_36 : Array Bool := bl_ 37 68719476735
abbrev q100_37 : Array Bool := bl_ 37 137438953471
abbrev q100_38 : Array Bool := Array.replicate 21 false
abbrev q100_39 : Array Bool := bl_ 21 1
abbrev q100_40 : Array Bool := bl_ 21 3
abbrev q100_41 : Array Bool := bl_ 21 7
abbrev q100_42 : Array Bool := bl_ 21 15
abbrev q100_43 : Array Bool := bl_ 21 79
abbrev q100_44 : Array Bool := bl_ 21 207
abbrev q100_45 : Array Bool := bl_ 21 463
abbrev q100_46 : Array Bool := bl_ 21 975
abbrev q100_47 : Array Bool := bl_ 21 9167
abbrev q100_48 : Array Bool := bl_ 21 25551
abbrev q100_49 : Array Bool := bl_ 21 58319
abbrev q100_50 : Array Bool := bl_ 21 123855
abbrev q100_51 : Array Bool := bl_ 21 123871
abbrev q100_52 : Array Bool := bl_ 21 124895
abbrev q100_53 : Array Bool := bl_ 21 255967
abbrev q100_54 : Array Bool := bl_ 21 518111
abbrev q100_55 : Array Bool := bl_ 21 518143
abbrev q100_56 : Array Bool := bl_ 21 520191
abbrev q100_57 : Array Bool := bl_ 21 524287
abbrev q100_58 : Array Bool := bl_ 21 1048575
abbrev q100_59 : Array Bool := bl_ 21 2097151
abbrev q100_60 : Array Bool := Array.replicate 20 false
abbrev q100_61 : Array Bool := bl_ 20 1
abbrev q100_62 : Array Bool := bl_ 20 3
abbrev q100_63 : Array Bool := bl_ 20 7
abbrev q100_64 : Array Bool := bl_ 20 15
abbrev q100_65 : Array Bool := bl_ 20 31
abbrev q100_66 : Array Bool := bl_ 20 95
abbrev q100_67 : Array Bool := bl_ 20 351
abbrev q100_68 : Array Bool := bl_ 20 863
abbrev q100_69 : Array Bool := bl_ 20 1887
abbrev q100_70 : Array Bool := bl_ 20 3935
abbrev q100_71 : Array Bool := bl_ 20 20319
abbrev q100_72 : Array Bool := bl_ 20 20351
abbrev q100_73 : Array Bool := bl_ 20 20479
abbrev q100_74 : Array Bool := bl_ 20 24575
abbrev q100_75 : Array Bool := bl_ 20 32767
abbrev q100_76 : Array Bool := bl_ 20 65535
abbrev q100_77 : Array Bool := bl_ 20 131071
abbrev q100_78 : Array Bool := bl_ 20 262143
abbrev q100_79 : Array Bool := bl_ 20 524287
abbrev q100_80 : Array Bool := bl_ 20 1048575
mutual
def spec_l1Words.l0 : Nat → List Int → List Int → Int → Option (List Int)
 | 0, _, _, _ => none
 | k + 1, x0, x3, x4 => if x4 < 16 then (if 0 ≤ (wrap64 (4 * x4)) then (if (wrap64 (4 * x4)) < (x0.length : Int) then (if 0 ≤ (wrap64 ((wrap64 (4 * x4)) + 1)) then (if (wrap64 ((wrap64 (4 * x4)) + 1)) < (x0.length : Int) then (if 0 ≤ (wrap64 ((wrap64 (4 * x4)) + 2)) then (if (wrap64 ((wrap64 (4 * x4)) + 2)) < (x0.length : Int) then (if 0 ≤ (wrap64 ((wrap64 (4 * x4)) + 3)) then (if (wrap64 ((wrap64 (4 * x4)) + 3)) < (x0.length : Int) then (if x3.length < 17592186044416 then (spec_l1Words.l0 k x0 (x3 ++ [Go.bits .or .u64 (Go.bits .or .u64 (Go.bits .or .u64 (IntKind.u64.wrap ((IntKind.u64.wrap (rd x0 (wrap64 (4 * x4)))) * 16777216)) (IntKind.u64.wrap ((IntKind.u64.wrap (rd x0 (wrap64 ((wrap64 (4 * x4)) + 1)))) * 65536))) (IntKind.u64.wrap ((IntKind.u64.wrap (rd x0 (wrap64 ((wrap64 (4 * x4)) + 2)))) * 256))) (IntKind.u64.wrap (rd x0 (wrap64 ((wrap64 (4 * x4)) + 3))))]) (wrap64 (x4 + 1))) else (none)) else (none)) else (none)) else (none)) else (none)) else (none)) else (none)) else (none)) else (none)) else (spec_l1Words.l1 k x3 16)
def spec_l1Words.l1 : Nat → List Int → Int → Option (List Int)
 | 0, _, _ => none
 | k + 1, x3, x5 => if x5 < 64 then (if 0 ≤ (wrap64 (x5 - 15)) then (if (wrap64 (x5 - 15)) < (x3.length : Int) then ((spec_l1Turn.f (rd x3 (wrap64 (x5 - 15))) 7).bind fun t112 => ((spec_l1Turn.f (rd x3 (wrap64 (x5 - 15))) 18).bind fun t114 => (if 0 ≤ (wrap64 (x5 - 2)) then (if (wrap64 (x5 - 2)) < (x3.length : Int) then ((spec_l1Turn.f (rd x3 (wrap64 (x5 - 2))) 17).bind fun t117 => ((spec_l1Turn.f (rd x3 (wrap64 (x5 - 2))) 19).bind fun t119 => (if 0 ≤ (wrap64 (x5 - 16)) then (if (wrap64 (x5 - 16)) < (x3.length : Int) then (if 0 ≤ (wrap64 (x5 - 7)) then (if (wrap64 (x5 - 7)) < (x3.length : Int) then ((spec_l1Word.f (IntKind.u64.wrap ((IntKind.u64.wrap ((IntKind.u64.wrap ((rd x3 (wrap64 (x5 - 16))) + (Go.bits .xor .u64 (Go.bits .xor .u64 t112 t114) ((rd x3 (wrap64 (x5 - 15))) / 8)))) + (rd x3 (wrap64 (x5 - 7))))) + (Go.bits .xor .u64 (Go.bits .xor .u64 t117 t119) ((rd x3 (wrap64 (x5 - 2))) / 1024))))).bind fun t123 => (if x3.length < 17592186044416 then (spec_l1Words.l1 k (x3 ++ [t123]) (wrap64 (x5 + 1))) else (none))) else (none)) else (none)) else (none)) else (none)))) else (none)) else (none)))) else (none)) else (none)) else (some x3)
end
def spec_l1Words.f (k : Nat) (l0 : List Int) : Option (List Int) := spec_l1Words.l0 k l0 (([] : List Int)) 0
theorem spec_l1Words.mono_l : ∀ k, (∀ y0 y1 y2, LeO (spec_l1Words.l0 k y0 y1 y2) (spec_l1Words.l0 (k + 1) y0 y1 y2)) ∧ (∀ y0 y1, LeO (spec_l1Words.l1 k y0 y1) (spec_l1Words.l1 (k + 1) y0 y1))
 | 0 => ⟨fun _ _ _ r h => by simp [spec_l1Words.l0] at h, fun _ _ r h => by simp [spec_l1Words.l1] at h⟩
 | k + 1 => by
  obtain ⟨ih0, ih1⟩ := spec_l1Words.mono_l k
  refine ⟨?_, ?_⟩
  ·
   intro y0 y1 y2
   unfold spec_l1Words.l0
   repeat' first | (with_reducible first | exact ih0 .. | exact ih1 .. | exact LeO.refl .. | exact LeO.none .. | refine LeO.ite ?_ ?_ | refine LeO.bind ?_ (fun _ => ?_)) | exact ih0 .. | exact ih1 .. | exact LeO.none .. | refine LeO.ite ?_ ?_ | refine LeO.bind ?_ (fun _ => ?_)
  ·
   intro y0 y1
   unfold spec_l1Words.l1
   repeat' first | (with_reducible first | exact ih0 .. | exact ih1 .. | exact LeO.refl .. | exact LeO.none .. | refine LeO.ite ?_ ?_ | refine LeO.bind ?_ (fun _ => ?_)) | exact ih0 .. | exact ih1 .. | exact LeO.none .. | refine LeO.ite ?_ ?_ | refine LeO.bind ?_ (fun _ => ?_)
theorem spec_l1Words.mono : ∀ a0 k, LeO (spec_l1Words.f k a0) (spec_l1Words.f (k + 1) a0) := by
 intro a0 k
 obtain ⟨ih0, ih1⟩ := spec_l1Words.mono_l k
 unfold spec_l1Words.f
 repeat' first | (with_reducible first | exact ih0 .. | exact ih1 .. | exact LeO.refl .. | exact LeO.none .. | refine LeO.ite ?_ ?_ | refine LeO.bind ?_ (fun _ => ?_)) | exact ih0 .. | exact ih1 .. | exact LeO.none .. | refine LeO.ite ?_ ?_ | refine LeO.bind ?_ (fun _ => ?_)
def spec_l1Words.T5 : Bool × List (List Nat × List Nat) := (true, [([], []), ([], []), ([], []), ([2], [2]), ([1, 3], [1, 3]), ([4], [4]), ([5], [5]), ([6], [6]), ([], []), ([], []), ([9], [9]), ([10], [10]), ([8, 11], [8, 11]), ([12], [12]), ([13], [13]), ([14], [14]), ([7, 15], [7, 15]), ([], []), ([], []), ([18], [18]), ([19], [19]), ([17, 20], [17, 20]), ([21], [21]), ([22], [22]), ([23], [23]), ([16, 24], [16, 24]), ([], []), ([], []), ([27], [27]), ([28], [28]), ([26, 29], [26, 29]), ([30], [30]), ([31], [31]), ([25, 32], [25, 32]), ([33], [33]), ([0, 34], [0, 34]), ([35, 35, 0, 1, 2, 3, 4, 5, 6, 7, 8, 9, 10, 11, 12, 13, 14, 15, 16, 17, 18, 19, 20, 21, 22, 23, 24, 25, 26, 27, 28, 29, 30, 31, 32, 33, 34, 35], [0, 35])])
def spec_l1Words.B5 : List Nat := [0, 0, 0, 4, 14, 30, 62, 126, 0, 0, 512, 1536, 3840, 7936, 16128, 32512, 65534, 0, 0, 262144, 786432, 1966080, 4063232, 8257536, 16646144, 33554430, 0, 0, 134217728, 402653184, 1006632960, 2080374784, 4227858432, 8589934590, 17179869182, 34359738367, 68719476735]
theorem spec_l1Words.tab5 : rtab .any (opsOf Tryz.f100 5) = spec_l1Words.T5 := by kernel_rfl
theorem spec_l1Words.bits5 : waitsOk spec_l1Words.T5.2 spec_l1Words.B5 = true := by kernel_rfl
def spec_l1Words.T9 : Bool × List (List Nat × List Nat) := (true, [([], []), ([], []), ([1], [1]), ([0, 2], [0, 2]), ([3], [3]), ([4], [4]), ([], []), ([], []), ([7], [7]), ([6, 8], [6, 8]), ([9], [9]), ([10, 5], [10]), ([5, 11], [5, 11]), ([], []), ([], []), ([14], [14]), ([13, 15], [13, 15]), ([16], [16]), ([17], [17]), ([12, 18], [12, 18]), ([19, 11, 0, 1, 2, 3, 4, 5, 6, 7, 8, 9, 10, 11, 12, 13, 14, 15, 16, 17, 18, 19], [19])])
def spec_l1Words.B9 : List Nat := [0, 0, 2, 7, 15, 31, 0, 0, 128, 448, 960, 2047, 4095, 0, 0, 16384, 57344, 122880, 253952, 524287, 1048575]
theorem spec_l1Words.tab9 : rtab .any (opsOf Tryz.f100 9) = spec_l1Words.T9 := by kernel_rfl
theorem spec_l1Words.bits9 : waitsOk spec_l1Words.T9.2 spec_l1Words.B9 = true := by kernel_rfl
def spec_l1Words.T10 : Bool × List (List Nat × List Nat) := (true, [([], []), ([], []), ([1], [1]), ([0, 2], [0, 2]), ([3], [3]), ([4], [4]), ([], []), ([], []), ([7], [7]), ([6, 8], [6, 8]), ([9], [9]), ([10, 5], [10]), ([5, 11], [5, 11]), ([], []), ([], []), ([14], [14]), ([13, 15], [13, 15]), ([16], [16]), ([17], [17]), ([12, 18], [12, 18]), ([19, 11, 0, 1, 2, 3, 4, 5, 6, 7, 8, 9, 10, 11, 12, 13, 14, 15, 16, 17, 18, 19], [19])])
def spec_l1Words.B10 : List Nat := [0, 0, 2, 7, 15, 31, 0, 0, 128, 448, 960, 2047, 4095, 0, 0, 16384, 57344, 122880, 253952, 524287, 1048575]
theorem spec_l1Words.tab10 : rtab .any (opsOf Tryz.f100 10) = spec_l1Words.T10 := by kernel_rfl
theorem spec_l1Words.bits10 : waitsOk spec_l1Words.T10.2 spec_l1Words.B10 = true := by kernel_rfl
def spec_l1Words.T11 : Bool × List (List Nat × List Nat) := (true, [([], []), ([], []), ([], []), ([2], [2]), ([1, 3], [1, 3]), ([4], [4]), ([], []), ([5, 6], [5, 6]), ([], []), ([], []), ([9], [9]), ([8, 10], [8, 10]), ([11], [11]), ([7, 12], [7, 12]), ([], []), ([13, 14], [13, 14]), ([15], [15]), ([16], [16]), ([0, 17, 16], [0, 17]), ([18, 18, 0, 1, 2, 3, 4, 5, 6, 7, 8, 9, 10, 11, 12, 13, 14, 15, 16, 17, 18], [0, 1, 8, 18])])
def spec_l1Words.B11 : List Nat := [0, 0, 0, 4, 14, 30, 0, 126, 0, 0, 512, 1792, 3840, 8190, 0, 32766, 65534, 131070, 262143, 524287]
theorem spec_l1Words.tab11 : rtab .any (opsOf Tryz.f100 11) = spec_l1Words.T11 := by kernel_rfl
theorem spec_l1Words.bits11 : waitsOk spec_l1Words.T11.2 spec_l1Words.B11 = true := by kernel_rfl
set_option maxHeartbeats 8000000 in
set_option maxRecDepth 100000 in
theorem spec_l1Words.calls (k : Nat) (A0 : Option Addr) (c0 : Nat) (l0 : List Int) (r : List Int) (w : World) (hr0 : Kd.C (Kd.int .u8) w A0 l0.length l0) (hc0 : l0.length ≤ c0) (h : spec_l1Words.f k l0 = some r) :
  Calls Tryz.prog 100 #[.slice A0 l0.length c0] w fun e w' => ∃ v0_ : Value, e = .returned (v0_) ∧ Kd.R (Kd.int .u64) 149 w' w.heap.size (fun _ => True) v0_ r ∧ Below w.heap.size w w' := by
 have HR0 := yaa hr0; have HC0 := yaa hc0; clear hr0 hc0; have HB := yaa (Below.refl w.heap.size w); have H : (spec_l1Words.l0 k l0 (([] : List Int)) 0) = some r := h; clear h; obtain ⟨y101, hy101⟩ : ∃ y_ : List Int, y_ = (([] : List Int)) := ⟨_, rfl⟩
 replace H : (spec_l1Words.l0 k l0 y101 0) = some r := by first | (rw [hy101]; with_reducible exact H) | (have H2_ := (Option.bind_some _ _).symm.trans H; rw [hy101]; with_reducible exact H2_) | (have H2_ := (Option.bind_some _ _).symm.trans H; with_reducible exact H2_) | with_reducible exact H | (rw [hy101]; exact H) | exact H
 have Ny101 := yaa hy101; clear hy101; have H' := yaa H; clear H
 go_enter Tryz.func100, Tryz.ntmps100
 go_wp2_with (first | ((with_reducible refine gd_ 8 rfl ?_); refine Kd.R_lit (Kd.int .u64) _ 149 ?hg (N := 8) ?hd (xs := ([] : List Int)) (inner := []) (ok := fun _ => True) (okp := fun _ => True) ?hr ?hp (fun _ hk => hk) trivial (Below.refl _ _) (Nat.le_refl _) (by simp) ?_; (case hd => rfl); (case hg => rfl); (case hr => first | (go_simp; done) | (go_simp; rfl)); (case hp => exact (Reps.none _ _)); intro f7 w2 ho3 hb hg_ hnew_; clear hg_ hnew_; (first | rw [← Ny101.out] at ho3 | (simp only [Int.reduceToNat] at ho3; rw [← Ny101.out] at ho3)); have d3 := yaa (Kd.R_lower ho3 (below_size (upH HB.out))); replace HB := yaa (below_step (upH HB.out) hb); clear hb ho3))
 (try simp only [Act.put, List.setIfInBounds_toArray, List.set_cons_zero, List.set_cons_succ])
 go_loopg [3, 4] k (fun kq v3 v4 w' => ∃ (a4 : List Int) (a5 : Int), v4 = .int .i64 a5 ∧ Aside0 (spec_l1Words.l0 kq l0 a4 a5 = some r) ∧ Aside0 (kq ≤ k) ∧ Aside0 (Kd.R (Kd.int .u64) 149 w' w.heap.size (fun _ => True) v3 a4) ∧ Aside0 (Below w.heap.size w w'))
 case atStart => exact ⟨(y101), (0), (by first | rfl | (simp; done) | (simp [*]; done)), H', ⟨Nat.le_refl _⟩, ⟨by first | exact d3.out | exact upR d3.out⟩, ⟨upH HB.out⟩⟩
 case round =>
  clear H'; (try clear c1); (try clear p2); obtain ⟨a4, a5, rfl, HA, HK1, a3, HB⟩ := hrel
  cases gk with
  | zero => exact absurd HA.out (by simp [spec_l1Words.l0])
  | succ k1 =>
   have H := HA.out; clear HA
   simp only [spec_l1Words.l0] at H
   by_cases c4 : a5 < 16
   ·
    rw [if_pos c4] at H
    have d7 : decide (a5 < 16) = true := decide_eq_true c4; clear c4; obtain ⟨ji5, hji5⟩ : ∃ j_ : Int, (wrap64 (4 * a5)) = j_ := ⟨_, rfl⟩
    replace H : (if 0 ≤ (ji5) then (if (ji5) < (l0.length : Int) then (if 0 ≤ (wrap64 ((ji5) + 1)) then (if (wrap64 ((ji5) + 1)) < (l0.length : Int) then (if 0 ≤ (wrap64 ((ji5) + 2)) then (if (wrap64 ((ji5) + 2)) < (l0.length : Int) then (if 0 ≤ (wrap64 ((ji5) + 3)) then (if (wrap64 ((ji5) + 3)) < (l0.length : Int) then (if a4.length < 17592186044416 then (spec_l1Words.l0 k1 l0 (a4 ++ [Go.bits .or .u64 (Go.bits .or .u64 (Go.bits .or .u64 (IntKind.u64.wrap ((IntKind.u64.wrap (rd l0 (ji5))) * 16777216)) (IntKind.u64.wrap ((IntKind.u64.wrap (rd l0 (wrap64 ((ji5) + 1)))) * 65536))) (IntKind.u64.wrap ((IntKind.u64.wrap (rd l0 (wrap64 ((ji5) + 2)))) * 256))) (IntKind.u64.wrap (rd l0 (wrap64 ((ji5) + 3))))]) (wrap64 (a5 + 1))) else (none)) else (none)) else (none)) else (none)) else (none)) else (none)) else (none)) else (none)) else (none)) = some r := by first | (rw [hji5] at H; exact H) | (simp only [hji5] at H ⊢; exact H)
    have hji5w : (IntKind.i64.wrap (4 * a5)) = ji5 := (i64_w _).trans hji5
    by_cases c6 : 0 ≤ (ji5)
    rotate_left
    ·
     rw [if_neg c6] at H
     exact absurd H (by simp)
    rw [if_pos c6] at H
    replace c6 := decide_eq_true c6
    by_cases c7 : (ji5) < (l0.length : Int)
    rotate_left
    ·
     rw [if_neg c7] at H
     exact absurd H (by simp)
    rw [if_pos c7] at H
    replace c7 := decide_eq_true c7; obtain ⟨ji8, hji8⟩ : ∃ j_ : Int, (wrap64 ((ji5) + 1)) = j_ := ⟨_, rfl⟩
    replace H : (if 0 ≤ (ji8) then (if (ji8) < (l0.length : Int) then (if 0 ≤ (wrap64 ((ji5) + 2)) then (if (wrap64 ((ji5) + 2)) < (l0.length : Int) then (if 0 ≤ (wrap64 ((ji5) + 3)) then (if (wrap64 ((ji5) + 3)) < (l0.length : Int) then (if a4.length < 17592186044416 then (spec_l1Words.l0 k1 l0 (a4 ++ [Go.bits .or .u64 (Go.bits .or .u64 (Go.bits .or .u64 (IntKind.u64.wrap ((IntKind.u64.wrap (rd l0 (ji5))) * 16777216)) (IntKind.u64.wrap ((IntKind.u64.wrap (rd l0 (ji8))) * 65536))) (IntKind.u64.wrap ((IntKind.u64.wrap (rd l0 (wrap64 ((ji5) + 2)))) * 256))) (IntKind.u64.wrap (rd l0 (wrap64 ((ji5) + 3))))]) (wrap64 (a5 + 1))) else (none)) else (none)) else (none)) else (none)) else (none)) else (none)) else (none)) = some r := by first | (rw [hji8] at H; exact H) | (simp only [hji8] at H ⊢; exact H)
    have hji8w : (IntKind.i64.wrap ((ji5) + 1)) = ji8 := (i64_w _).trans hji8
    by_cases c9 : 0 ≤ (ji8)
    rotate_left
    ·
     rw [if_neg c9] at H
     exact absurd H (by simp)
    rw [if_pos c9] at H
    replace c9 := decide_eq_true c9
    by_cases c10 : (ji8) < (l0.length : Int)
    rotate_left
    ·
     rw [if_neg c10] at H
     exact absurd H (by simp)
    rw [if_pos c10] at H
    replace c10 := decide_eq_true c10; obtain ⟨ji11, hji11⟩ : ∃ j_ : Int, (wrap64 ((ji5) + 2)) = j_ := ⟨_, rfl⟩
    replace H : (if 0 ≤ (ji11) then (if (ji11) < (l0.length : Int) then (if 0 ≤ (wrap64 ((ji5) + 3)) then (if (wrap64 ((ji5) + 3)) < (l0.length : Int) then (if a4.length < 17592186044416 then (spec_l1Words.l0 k1 l0 (a4 ++ [Go.bits .or .u64 (Go.bits .or .u64 (Go.bits .or .u64 (IntKind.u64.wrap ((IntKind.u64.wrap (rd l0 (ji5))) * 16777216)) (IntKind.u64.wrap ((IntKind.u64.wrap (rd l0 (ji8))) * 65536))) (IntKind.u64.wrap ((IntKind.u64.wrap (rd l0 (ji11))) * 256))) (IntKind.u64.wrap (rd l0 (wrap64 ((ji5) + 3))))]) (wrap64 (a5 + 1))) else (none)) else (none)) else (none)) else (none)) else (none)) = some r := by first | (rw [hji11] at H; exact H) | (simp only [hji11] at H ⊢; exact H)
    have hji11w : (IntKind.i64.wrap ((ji5) + 2)) = ji11 := (i64_w _).trans hji11
    by_cases c12 : 0 ≤ (ji11)
    rotate_left
    ·
     rw [if_neg c12] at H
     exact absurd H (by simp)
    rw [if_pos c12] at H
    replace c12 := decide_eq_true c12
    by_cases c13 : (ji11) < (l0.length : Int)
    rotate_left
    ·
     rw [if_neg c13] at H
     exact absurd H (by simp)
    rw [if_pos c13] at H
    replace c13 := decide_eq_true c13; obtain ⟨ji14, hji14⟩ : ∃ j_ : Int, (wrap64 ((ji5) + 3)) = j_ := ⟨_, rfl⟩
    replace H : (if 0 ≤ (ji14) then (if (ji14) < (l0.length : Int) then (if a4.length < 17592186044416 then (spec_l1Words.l0 k1 l0 (a4 ++ [Go.bits .or .u64 (Go.bits .or .u64 (Go.bits .or .u64 (IntKind.u64.wrap ((IntKind.u64.wrap (rd l0 (ji5))) * 16777216)) (IntKind.u64.wrap ((IntKind.u64.wrap (rd l0 (ji8))) * 65536))) (IntKind.u64.wrap ((IntKind.u64.wrap (rd l0 (ji11))) * 256))) (IntKind.u64.wrap (rd l0 (ji14)))]) (wrap64 (a5 + 1))) else (none)) else (none)) else (none)) = some r := by first | (rw [hji14] at H; exact H) | (simp only [hji14] at H ⊢; exact H)
    have hji14w : (IntKind.i64.wrap ((ji5) + 3)) = ji14 := (i64_w _).trans hji14
    by_cases c15 : 0 ≤ (ji14)
    rotate_left
    ·
     rw [if_neg c15] at H
     exact absurd H (by simp)
    rw [if_pos c15] at H
    replace c15 := decide_eq_true c15
    by_cases c16 : (ji14) < (l0.length : Int)
    rotate_left
    ·
     rw [if_neg c16] at H
     exact absurd H (by simp)
    rw [if_pos c16] at H
    replace c16 := decide_eq_true c16
    by_cases c17 : a4.length < 17592186044416
    rotate_left
    ·
     rw [if_neg c17] at H
     exact absurd H (by simp)
    rw [if_pos c17] at H
    have LMc17 := yaa c17; clear c17; obtain ⟨y108, hy108⟩ : ∃ y_ : List Int, y_ = (a4 ++ [Go.bits .or .u64 (Go.bits .or .u64 (Go.bits .or .u64 (IntKind.u64.wrap ((IntKind.u64.wrap (rd l0 (ji5))) * 16777216)) (IntKind.u64.wrap ((IntKind.u64.wrap (rd l0 (ji8))) * 65536))) (IntKind.u64.wrap ((IntKind.u64.wrap (rd l0 (ji11))) * 256))) (IntKind.u64.wrap (rd l0 (ji14)))]) := ⟨_, rfl⟩
    replace H : (spec_l1Words.l0 k1 l0 y108 (wrap64 (a5 + 1))) = some r := by first | (rw [hy108]; with_reducible exact H) | (have H2_ := (Option.bind_some _ _).symm.trans H; rw [hy108]; with_reducible exact H2_) | (have H2_ := (Option.bind_some _ _).symm.trans H; with_reducible exact H2_) | with_reducible exact H | (rw [hy108]; exact H) | exact H
    have Ny108 := yaa hy108; clear hy108; have H' := yaa H; clear H
    try go_wp2
    replace a3 := yaa (Kd.R_drew a3.out); replace HB := yaa (below_drew1 HB.out); have p104 : 0 ≤ ((ji5) : Int) := of_decide_eq_true (by assumption); have q104 : (ji5) < (l0.length : Int) := of_decide_eq_true (by assumption); obtain ⟨ad104, e0, a6⟩ := Kd.at_int HR0.out (ji5) p104 q104; have b1 := a6
    cases e0
    replace a6 := (upc_ HB.out a6 :); replace p104 := eq_true p104; replace q104 := eq_true q104; have p105 : 0 ≤ ((ji8) : Int) := of_decide_eq_true (by assumption); have q105 : (ji8) < (l0.length : Int) := of_decide_eq_true (by assumption); obtain ⟨ad105, e1, a7⟩ := Kd.at_int HR0.out (ji8) p105 q105; have b2 := a7; obtain rfl : ad104 = ad105 := (by injection e1); replace a7 := (upc_ HB.out a7 :); replace p105 := eq_true p105; replace q105 := eq_true q105; have p106 : 0 ≤ ((ji11) : Int) := of_decide_eq_true (by assumption); have q106 : (ji11) < (l0.length : Int) := of_decide_eq_true (by assumption); obtain ⟨ad106, e2, a8⟩ := Kd.at_int HR0.out (ji11) p106 q106; have b3 := a8; obtain rfl : ad104 = ad106 := (by injection e2); replace a8 := (upc_ HB.out a8 :); replace p106 := eq_true p106; replace q106 := eq_true q106; have p107 : 0 ≤ ((ji14) : Int) := of_decide_eq_true (by assumption); have q107 : (ji14) < (l0.length : Int) := of_decide_eq_true (by assumption); obtain ⟨ad107, e3, a9⟩ := Kd.at_int HR0.out (ji14) p107 q107; have b4 := a9; obtain rfl : ad104 = ad107 := (by injection e3); replace a9 := (upc_ HB.out a9 :); replace p107 := eq_true p107; replace q107 := eq_true q107
    refine start_ (n := 37) (S := fun w' => w'.cell? (ad104.add ((ji5)).toNat) = some (.int .u8 (rd l0 (ji5))) ∧ w'.cell? (ad104.add ((ji8)).toNat) = some (.int .u8 (rd l0 (ji8))) ∧ w'.cell? (ad104.add ((ji11)).toNat) = some (.int .u8 (rd l0 (ji11))) ∧ w'.cell? (ad104.add ((ji14)).toNat) = some (.int .u8 (rd l0 (ji14)))) (ds := []) q100_0 (by kernel_rfl) rfl rfl ⟨(upc_ HB.out b1 :), (upc_ HB.out b2 :), (upc_ HB.out b3 :), (upc_ HB.out b4 :)⟩ (fun hHeld => ?_); refine with_tabW spec_l1Words.tab5 spec_l1Words.bits5 (fun HT_ HW_ => ?_)
    generalize wr.drew = w18 at a3 HB a6 a7 a8 a9 hHeld ⊢
    refine pz_ 0 13 q100_1 HT_ (by kernel_rfl) ?_
    refine pz_ 1 14 q100_2 HT_ (by kernel_rfl) ?_
    refine pz_ 2 15 q100_3 HT_ (by kernel_rfl) ?_
    refine pz_ 3 16 q100_4 HT_ (by kernel_rfl) ?_
    refine pz_ 4 17 q100_5 HT_ (by kernel_rfl) ?_
    refine pz_ 8 21 q100_6 HT_ (by kernel_rfl) ?_
    refine pz_ 9 22 q100_7 HT_ (by kernel_rfl) ?_
    refine pz_ 10 23 q100_8 HT_ (by kernel_rfl) ?_
    refine pz_ 11 24 q100_9 HT_ (by kernel_rfl) ?_
    refine pz_ 12 25 q100_10 HT_ (by kernel_rfl) ?_
    refine pz_ 17 30 q100_11 HT_ (by kernel_rfl) ?_
    refine pz_ 18 31 q100_12 HT_ (by kernel_rfl) ?_
    refine pz_ 19 32 q100_13 HT_ (by kernel_rfl) ?_
    refine pz_ 20 33 q100_14 HT_ (by kernel_rfl) ?_
    refine pz_ 21 34 q100_15 HT_ (by kernel_rfl) ?_
    refine pz_ 26 39 q100_16 HT_ (by kernel_rfl) ?_
    refine pz_ 27 40 q100_17 HT_ (by kernel_rfl) ?_
    refine pz_ 28 41 q100_18 HT_ (by kernel_rfl) ?_
    refine pz_ 29 42 q100_19 HT_ (by kernel_rfl) ?_
    refine pz_ 30 43 q100_20 HT_ (by kernel_rfl) ?_
    refine tz_ 5 18 q100_21 HT_ HW_ (by kernel_rfl) hHeld ?_
    refine pz_ 6 19 q100_22 HT_ (by kernel_rfl) ?_
    refine pz_ 7 20 q100_23 HT_ (by kernel_rfl) ?_
    refine tz_ 13 26 q100_24 HT_ HW_ (by kernel_rfl) hHeld ?_
    refine pz_ 14 27 q100_25 HT_ (by kernel_rfl) ?_
    refine pz_ 15 28 q100_26 HT_ (by kernel_rfl) ?_
    refine pz_ 16 29 q100_27 HT_ (by kernel_rfl) ?_
    refine tz_ 22 35 q100_28 HT_ HW_ (by kernel_rfl) hHeld ?_
    refine pz_ 23 36 q100_29 HT_ (by kernel_rfl) ?_
    refine pz_ 24 37 q100_30 HT_ (by kernel_rfl) ?_
    refine pz_ 25 38 q100_31 HT_ (by kernel_rfl) ?_
    refine tz_ 31 44 q100_32 HT_ HW_ (by kernel_rfl) hHeld ?_
    refine pz_ 32 45 q100_33 HT_ (by kernel_rfl) ?_
    refine pz_ 33 46 q100_34 HT_ (by kernel_rfl) ?_
    refine one_ (i := 34) (N := some 47) q100_35 rfl rfl (one_of HT_.out (by kernel_rfl)) (by decide) (fun K hK => ?_)
    refine value_ (w1 := ?_) (v := ?_) (by rfl) rfl ?_ ?_
    rotate_left 2
    ·
     go_simp
     constructor
     ·
      rfl
     ·
      rfl
    refine hK.out _ _ ⟨(World.cell?_alloc_lt _ _ _ (World.block_lt_of_cell? _ _ ((upc_ HB.out b1 :)))).trans ((upc_ HB.out b1 :)), (World.cell?_alloc_lt _ _ _ (World.block_lt_of_cell? _ _ ((upc_ HB.out b2 :)))).trans ((upc_ HB.out b2 :)), (World.cell?_alloc_lt _ _ _ (World.block_lt_of_cell? _ _ ((upc_ HB.out b3 :)))).trans ((upc_ HB.out b3 :)), (World.cell?_alloc_lt _ _ _ (World.block_lt_of_cell? _ _ ((upc_ HB.out b4 :)))).trans ((upc_ HB.out b4 :))⟩ (fun hHeld => ?_)
    clear hK K
    refine norm_ (a' := ?_) ?_ ?_
    rotate_left
    ·
     show Act.put _ (some 47) _ = _
     simp only [Act.put, List.setIfInBounds_toArray, List.set_cons_zero, List.set_cons_succ, i64_w, i32_w]
     rfl
    refine one_ (i := 35) (N := some 48) q100_36 rfl rfl (one_of HT_.out (by kernel_rfl)) (by decide) (fun K hK => ?_)
    refine Kd.R_append_step (Kd.int .u64) (w0 := w) w.heap.size (by rfl) (.tmp 13) (.tmp 47) 156 149 (.int .u64 0) 8 rfl Tryz.underlying156 info149 rfl (by decide) (by omega) u3 a4 (Go.bits .or .u64 (Go.bits .or .u64 (Go.bits .or .u64 (IntKind.u64.wrap ((IntKind.u64.wrap (rd l0 (ji5))) * 16777216)) (IntKind.u64.wrap ((IntKind.u64.wrap (rd l0 (ji8))) * 65536))) (IntKind.u64.wrap ((IntKind.u64.wrap (rd l0 (ji11))) * 256))) (IntKind.u64.wrap (rd l0 (ji14)))) [.int .u64 (Go.bits .or .u64 (Go.bits .or .u64 (Go.bits .or .u64 (IntKind.u64.wrap ((IntKind.u64.wrap (rd l0 (ji5))) * 16777216)) (IntKind.u64.wrap ((IntKind.u64.wrap (rd l0 (ji8))) * 65536))) (IntKind.u64.wrap ((IntKind.u64.wrap (rd l0 (ji11))) * 256))) (IntKind.u64.wrap (rd l0 (ji14))))] (fun _ => True) (fun _ => False) rfl rfl ?aP (fun _ hk => hk.elim) ?aF ?aO ?aB ?aS ?aL ?_
    (case aP => exact rfl)
    (case aB => exact (upH HB.out))
    (case aF => exact (fun _ _ => trivial))
    (case aO => exact (upR a3.out))
    (case aS => exact (below_size (upH HB.out)))
    (case aL => have := LMc17.out; omega)
    intro f8 w19 ho hb hg hat
    rw [← Ny108.out] at ho
    replace HB := yaa (hb); have d4 := yaa (ho); clear a3; clear ho hb hg hat
    refine hK.out _ _ ⟨(upc_ HB.out b1 :), (upc_ HB.out b2 :), (upc_ HB.out b3 :), (upc_ HB.out b4 :)⟩ (fun hHeld => ?_)
    clear hK K
    refine norm_ (a' := ?_) ?_ ?_
    rotate_left
    ·
     show Act.put _ (some 48) _ = _
     simp only [Act.put, List.setIfInBounds_toArray, List.set_cons_zero, List.set_cons_succ, i64_w, i32_w]
     rfl
    refine pz_ 36 3 q100_37 HT_ (by kernel_rfl) ?_
    refine done_ (done_of HT_.out (by kernel_rfl)) ?_
    try go_wp2
    go_roundg k1
    case measure => have := HK1.out; omega
    case rel => exact ⟨(y108), (wrap64 (a5 + 1)), (by first | rfl | (simp; done) | (simp [*]; done)), H', ⟨by have := HK1.out; omega⟩, ⟨by first | exact d4.out | exact upR d4.out⟩, ⟨upH HB.out⟩⟩
   rw [if_neg c4] at H
   have d7 : decide (a5 < 16) = false := decide_eq_false c4; clear c4; have H' := yaa H; clear H
   go_wp2
   (try simp only [Act.put, List.setIfInBounds_toArray, List.set_cons_zero, List.set_cons_succ])
   go_loopg [3, 5] k1 (fun kq v3 v5 w' => ∃ (a1 : List Int) (a2 : Int), v5 = .int .i64 a2 ∧ Aside0 (spec_l1Words.l1 kq a1 a2 = some r) ∧ Aside0 (kq ≤ k1) ∧ Aside0 (Kd.R (Kd.int .u64) 149 w' w.heap.size (fun _ => True) v3 a1) ∧ Aside0 (Below w.heap.size w w'))
   case atStart => exact ⟨(a4), (16), (by first | rfl | (simp; done) | (simp [*]; done)), H', ⟨Nat.le_refl _⟩, ⟨by first | exact a3.out | exact upR a3.out⟩, ⟨upH HB.out⟩⟩
   case round =>
    clear H'; (try clear c1); (try clear p1); (try clear q1); (try clear hx1); (try clear p2); (try clear c4); (try clear d7); (try clear c6); (try clear c6b0); (try clear p6); (try clear c7); (try clear c7b0); (try clear c9); (try clear c9b0); (try clear c10); (try clear c10b0); (try clear p10); (try clear q10); (try clear hx10); (try clear c12); (try clear c12b0); (try clear c13); (try clear c13b0); (try clear c15); (try clear c15b0); (try clear c16); (try clear c16b0); (try clear c17); (try clear a6); (try clear a7); (try clear a8); (try clear a9); (try clear p104); (try clear p105); (try clear p106); (try clear p107); (try clear p2); (try clear q104); (try clear q105); (try clear q106); (try clear q107); obtain ⟨a1, a2, rfl, HA, HK2, a3, HB⟩ := hrel
    cases gk with
    | zero => exact absurd HA.out (by simp [spec_l1Words.l1])
    | succ k2 =>
     have H := HA.out; clear HA
     simp only [spec_l1Words.l1] at H
     by_cases c20 : a2 < 64
     rotate_left
     ·
      rw [if_neg c20] at H
      have d8 : decide (a2 < 64) = false := decide_eq_false c20; clear c20; obtain rfl := Option.some.inj H
      go_wp2
      go_ret
      exact ⟨_, by first | rfl | (simp [*, errW_none, errW_some] <;> rfl), by first | exact a3.out | exact upR a3.out, upH HB.out⟩
     rw [if_pos c20] at H
     have d8 : decide (a2 < 64) = true := decide_eq_true c20; clear c20; obtain ⟨ji21, hji21⟩ : ∃ j_ : Int, (wrap64 (a2 - 15)) = j_ := ⟨_, rfl⟩
     replace H : (if 0 ≤ (ji21) then (if (ji21) < (a1.length : Int) then ((spec_l1Turn.f (rd a1 (ji21)) 7).bind fun b7 => ((spec_l1Turn.f (rd a1 (ji21)) 18).bind fun b8 => (if 0 ≤ (wrap64 (a2 - 2)) then (if (wrap64 (a2 - 2)) < (a1.length : Int) then ((spec_l1Turn.f (rd a1 (wrap64 (a2 - 2))) 17).bind fun b5 => ((spec_l1Turn.f (rd a1 (wrap64 (a2 - 2))) 19).bind fun b6 => (if 0 ≤ (wrap64 (a2 - 16)) then (if (wrap64 (a2 - 16)) < (a1.length : Int) then (if 0 ≤ (wrap64 (a2 - 7)) then (if (wrap64 (a2 - 7)) < (a1.length : Int) then ((spec_l1Word.f (IntKind.u64.wrap ((IntKind.u64.wrap ((IntKind.u64.wrap ((rd a1 (wrap64 (a2 - 16))) + (Go.bits .xor .u64 (Go.bits .xor .u64 b7 b8) ((rd a1 (ji21)) / 8)))) + (rd a1 (wrap64 (a2 - 7))))) + (Go.bits .xor .u64 (Go.bits .xor .u64 b5 b6) ((rd a1 (wrap64 (a2 - 2))) / 1024))))).bind fun b0 => (if a1.length < 17592186044416 then (spec_l1Words.l1 k2 (a1 ++ [b0]) (wrap64 (a2 + 1))) else (none))) else (none)) else (none)) else (none)) else (none)))) else (none)) else (none)))) else (none)) else (none)) = some r := by first | (rw [hji21] at H; exact H) | (simp only [hji21] at H ⊢; exact H)
     have hji21w : (IntKind.i64.wrap (a2 - 15)) = ji21 := (i64_w _).trans hji21
     by_cases c22 : 0 ≤ (ji21)
     rotate_left
     ·
      rw [if_neg c22] at H
      exact absurd H (by simp)
     rw [if_pos c22] at H
     replace c22 := decide_eq_true c22
     by_cases c23 : (ji21) < (a1.length : Int)
     rotate_left
     ·
      rw [if_neg c23] at H
      exact absurd H (by simp)
     rw [if_pos c23] at H
     replace c23 := decide_eq_true c23; obtain ⟨b7, A24, H⟩ := bindA H; (try dsimp only at H); obtain ⟨b8, A25, H⟩ := bindA H; (try dsimp only at H); obtain ⟨ji26, hji26⟩ : ∃ j_ : Int, (wrap64 (a2 - 2)) = j_ := ⟨_, rfl⟩
     replace H : (if 0 ≤ (ji26) then (if (ji26) < (a1.length : Int) then ((spec_l1Turn.f (rd a1 (ji26)) 17).bind fun b5 => ((spec_l1Turn.f (rd a1 (ji26)) 19).bind fun b6 => (if 0 ≤ (wrap64 (a2 - 16)) then (if (wrap64 (a2 - 16)) < (a1.length : Int) then (if 0 ≤ (wrap64 (a2 - 7)) then (if (wrap64 (a2 - 7)) < (a1.length : Int) then ((spec_l1Word.f (IntKind.u64.wrap ((IntKind.u64.wrap ((IntKind.u64.wrap ((rd a1 (wrap64 (a2 - 16))) + (Go.bits .xor .u64 (Go.bits .xor .u64 b7 b8) ((rd a1 (ji21)) / 8)))) + (rd a1 (wrap64 (a2 - 7))))) + (Go.bits .xor .u64 (Go.bits .xor .u64 b5 b6) ((rd a1 (ji26)) / 1024))))).bind fun b0 => (if a1.length < 17592186044416 then (spec_l1Words.l1 k2 (a1 ++ [b0]) (wrap64 (a2 + 1))) else (none))) else (none)) else (none)) else (none)) else (none)))) else (none)) else (none)) = some r := by first | (rw [hji26] at H; exact H) | (simp only [hji26] at H ⊢; exact H)
     (try rw [hji26] at A24)
     (try rw [hji26] at A25)
     have hji26w : (IntKind.i64.wrap (a2 - 2)) = ji26 := (i64_w _).trans hji26
     by_cases c27 : 0 ≤ (ji26)
     rotate_left
     ·
      rw [if_neg c27] at H
      exact absurd H (by simp)
     rw [if_pos c27] at H
     replace c27 := decide_eq_true c27
     by_cases c28 : (ji26) < (a1.length : Int)
     rotate_left
     ·
      rw [if_neg c28] at H
      exact absurd H (by simp)
     rw [if_pos c28] at H
     replace c28 := decide_eq_true c28; obtain ⟨b5, A29, H⟩ := bindA H; (try dsimp only at H); obtain ⟨b6, A30, H⟩ := bindA H; (try dsimp only at H); obtain ⟨ji31, hji31⟩ : ∃ j_ : Int, (wrap64 (a2 - 16)) = j_ := ⟨_, rfl⟩
     replace H : (if 0 ≤ (ji31) then (if (ji31) < (a1.length : Int) then (if 0 ≤ (wrap64 (a2 - 7)) then (if (wrap64 (a2 - 7)) < (a1.length : Int) then ((spec_l1Word.f (IntKind.u64.wrap ((IntKind.u64.wrap ((IntKind.u64.wrap ((rd a1 (ji31)) + (Go.bits .xor .u64 (Go.bits .xor .u64 b7 b8) ((rd a1 (ji21)) / 8)))) + (rd a1 (wrap64 (a2 - 7))))) + (Go.bits .xor .u64 (Go.bits .xor .u64 b5 b6) ((rd a1 (ji26)) / 1024))))).bind fun b0 => (if a1.length < 17592186044416 then (spec_l1Words.l1 k2 (a1 ++ [b0]) (wrap64 (a2 + 1))) else (none))) else (none)) else (none)) else (none)) else (none)) = some r := by first | (rw [hji31] at H; exact H) | (simp only [hji31] at H ⊢; exact H)
     (try rw [hji31] at A24)
     (try rw [hji31] at A25)
     (try rw [hji31] at A29)
     (try rw [hji31] at A30)
     have hji31w : (IntKind.i64.wrap (a2 - 16)) = ji31 := (i64_w _).trans hji31
     by_cases c32 : 0 ≤ (ji31)
     rotate_left
     ·
      rw [if_neg c32] at H
      exact absurd H (by simp)
     rw [if_pos c32] at H
     replace c32 := decide_eq_true c32
     by_cases c33 : (ji31) < (a1.length : Int)
     rotate_left
     ·
      rw [if_neg c33] at H
      exact absurd H (by simp)
     rw [if_pos c33] at H
     replace c33 := decide_eq_true c33; obtain ⟨ji34, hji34⟩ : ∃ j_ : Int, (wrap64 (a2 - 7)) = j_ := ⟨_, rfl⟩
     replace H : (if 0 ≤ (ji34) then (if (ji34) < (a1.length : Int) then ((spec_l1Word.f (IntKind.u64.wrap ((IntKind.u64.wrap ((IntKind.u64.wrap ((rd a1 (ji31)) + (Go.bits .xor .u64 (Go.bits .xor .u64 b7 b8) ((rd a1 (ji21)) / 8)))) + (rd a1 (ji34)))) + (Go.bits .xor .u64 (Go.bits .xor .u64 b5 b6) ((rd a1 (ji26)) / 1024))))).bind fun b0 => (if a1.length < 17592186044416 then (spec_l1Words.l1 k2 (a1 ++ [b0]) (wrap64 (a2 + 1))) else (none))) else (none)) else (none)) = some r := by first | (rw [hji34] at H; exact H) | (simp only [hji34] at H ⊢; exact H)
     (try rw [hji34] at A24)
     (try rw [hji34] at A25)
     (try rw [hji34] at A29)
     (try rw [hji34] at A30)
     have hji34w : (IntKind.i64.wrap (a2 - 7)) = ji34 := (i64_w _).trans hji34
     by_cases c35 : 0 ≤ (ji34)
     rotate_left
     ·
      rw [if_neg c35] at H
      exact absurd H (by simp)
     rw [if_pos c35] at H
     replace c35 := decide_eq_true c35
     by_cases c36 : (ji34) < (a1.length : Int)
     rotate_left
     ·
      rw [if_neg c36] at H
      exact absurd H (by simp)
     rw [if_pos c36] at H
     replace c36 := decide_eq_true c36; obtain ⟨b0, A37, H⟩ := bindA H; (try dsimp only at H)
     by_cases c38 : a1.length < 17592186044416
     rotate_left
     ·
      rw [if_neg c38] at H
      exact absurd H (by simp)
     rw [if_pos c38] at H
     have LMc38 := yaa c38; clear c38; obtain ⟨y124, hy124⟩ : ∃ y_ : List Int, y_ = (a1 ++ [b0]) := ⟨_, rfl⟩
     replace H : (spec_l1Words.l1 k2 y124 (wrap64 (a2 + 1))) = some r := by first | (rw [hy124]; with_reducible exact H) | (have H2_ := (Option.bind_some _ _).symm.trans H; rw [hy124]; with_reducible exact H2_) | (have H2_ := (Option.bind_some _ _).symm.trans H; with_reducible exact H2_) | with_reducible exact H | (rw [hy124]; exact H) | exact H
     have Ny124 := yaa hy124; clear hy124; have H' := yaa H; clear H
     try go_wp2
     replace a3 := yaa (Kd.R_drew a3.out); replace HB := yaa (below_drew1 HB.out); obtain ⟨g3, d6, d9⟩ := Kd.R_slice a3.out
     (first | subst d9 | (injection d9 with f1_ f2_ f3_; have f4_ := f1_.symm; have f5_ := f3_.symm; clear f1_ f2_ f3_; subst f4_; subst f5_))
     have p111 : 0 ≤ ((ji21) : Int) := of_decide_eq_true (by assumption); have q111 : (ji21) < (a1.length : Int) := of_decide_eq_true (by assumption); obtain ⟨ad111, e4, b9⟩ := Kd.at_int (Kd.R_reads' a3.out).2.2 (ji21) p111 q111
     cases e4
     replace p111 := eq_true p111; replace q111 := eq_true q111; have p113 : 0 ≤ ((ji21) : Int) := of_decide_eq_true (by assumption); have q113 : (ji21) < (a1.length : Int) := of_decide_eq_true (by assumption); obtain ⟨ad113, e5, c2⟩ := Kd.at_int (Kd.R_reads' a3.out).2.2 (ji21) p113 q113; obtain rfl : ad111 = ad113 := (by injection e5); replace p113 := eq_true p113; replace q113 := eq_true q113; have p115 : 0 ≤ ((ji21) : Int) := of_decide_eq_true (by assumption); have q115 : (ji21) < (a1.length : Int) := of_decide_eq_true (by assumption); obtain ⟨ad115, e6, c3⟩ := Kd.at_int (Kd.R_reads' a3.out).2.2 (ji21) p115 q115; obtain rfl : ad111 = ad115 := (by injection e6); replace p115 := eq_true p115; replace q115 := eq_true q115
     refine start_ (n := 21) (S := fun w' => w'.cell? (ad111.add ((ji21)).toNat) = some (.int .u64 (rd a1 (ji21))) ∧ w'.cell? (ad111.add ((ji21)).toNat) = some (.int .u64 (rd a1 (ji21))) ∧ w'.cell? (ad111.add ((ji21)).toNat) = some (.int .u64 (rd a1 (ji21)))) (ds := []) q100_38 (by kernel_rfl) rfl rfl ⟨b9, c2, c3⟩ (fun hHeld => ?_); refine with_tabW spec_l1Words.tab9 spec_l1Words.bits9 (fun HT_ HW_ => ?_)
     generalize wr.drew = w39 at a3 HB b9 c2 c3 hHeld ⊢
     refine pz_ 0 53 q100_39 HT_ (by kernel_rfl) ?_
     refine pz_ 1 54 q100_40 HT_ (by kernel_rfl) ?_
     refine pz_ 2 55 q100_41 HT_ (by kernel_rfl) ?_
     refine pz_ 3 56 q100_42 HT_ (by kernel_rfl) ?_
     refine pz_ 6 59 q100_43 HT_ (by kernel_rfl) ?_
     refine pz_ 7 60 q100_44 HT_ (by kernel_rfl) ?_
     refine pz_ 8 61 q100_45 HT_ (by kernel_rfl) ?_
     refine pz_ 9 62 q100_46 HT_ (by kernel_rfl) ?_
     refine pz_ 13 66 q100_47 HT_ (by kernel_rfl) ?_
     refine pz_ 14 67 q100_48 HT_ (by kernel_rfl) ?_
     refine pz_ 15 68 q100_49 HT_ (by kernel_rfl) ?_
     refine pz_ 16 69 q100_50 HT_ (by kernel_rfl) ?_
     refine tz_ 4 57 q100_51 HT_ HW_ (by kernel_rfl) hHeld ?_
     refine tz_ 10 63 q100_52 HT_ HW_ (by kernel_rfl) hHeld ?_
     refine tz_ 17 70 q100_53 HT_ HW_ (by kernel_rfl) hHeld ?_
     refine pz_ 18 71 q100_54 HT_ (by kernel_rfl) ?_
     refine one_ (i := 5) (N := some 58) q100_55 rfl rfl (one_of HT_.out (by kernel_rfl)) (by decide) (fun K hK => ?_)
     refine goes_ Tryz.func116 (by kernel_rfl) rfl #[.int .u64 (rd a1 (ji21)), .int .u64 7] (by rfl) rfl rfl (by (try simp only [List.map_toArray, List.map_cons, List.map_nil]); first | done | (simp only [hji21]; rfl) | rfl | (simp only [List.length_drop, List.length_take]; rfl)) ?_
     with_reducible refine (spec_l1Turn.calls (rd a1 (ji21)) 7 b7 _ A24.out).mono ?_
     rintro e w' ⟨rfl, ⟨nd, rfl⟩⟩; refine ⟨_, rfl, ?_⟩
     refine hK.out _ _ ⟨hHeld.1, hHeld.2.1, hHeld.2.2⟩ (fun hHeld => ?_)
     clear hK K
     refine norm_ (a' := ?_) ?_ ?_
     rotate_left
     ·
      show Act.put _ (some 58) _ = _
      simp only [Act.put, List.setIfInBounds_toArray, List.set_cons_zero, List.set_cons_succ, i64_w, i32_w]
      rfl
     refine one_ (i := 11) (N := some 64) q100_56 rfl rfl (one_of HT_.out (by kernel_rfl)) (by decide) (fun K hK => ?_)
     refine goes_ Tryz.func116 (by kernel_rfl) rfl #[.int .u64 (rd a1 (ji21)), .int .u64 18] (by rfl) rfl rfl (by (try simp only [List.map_toArray, List.map_cons, List.map_nil]); first | done | (simp only [hji21]; rfl) | rfl | (simp only [List.length_drop, List.length_take]; rfl)) ?_
     with_reducible refine (spec_l1Turn.calls (rd a1 (ji21)) 18 b8 _ A25.out).mono ?_
     rintro e w' ⟨rfl, ⟨nd, rfl⟩⟩; refine ⟨_, rfl, ?_⟩
     refine hK.out _ _ ⟨hHeld.1, hHeld.2.1, hHeld.2.2⟩ (fun hHeld => ?_)
     clear hK K
     refine norm_ (a' := ?_) ?_ ?_
     rotate_left
     ·
      show Act.put _ (some 64) _ = _
      simp only [Act.put, List.setIfInBounds_toArray, List.set_cons_zero, List.set_cons_succ, i64_w, i32_w]
      rfl
     refine pz_ 12 65 q100_57 HT_ (by kernel_rfl) ?_
     refine pz_ 19 72 q100_58 HT_ (by kernel_rfl) ?_
     refine pz_ 20 6 q100_59 HT_ (by kernel_rfl) ?_
     refine done_ (done_of HT_.out (by kernel_rfl)) ?_
     try go_wp2
     (try (rw [drewN_self w39]; generalize hq_ : World.drewN w39 _ = w39; have n0_ : Aside0 (Kd.R (Kd.int .u64) 149 w39 w.heap.size (fun _ => True) (.slice (some ad111) a1.length d6) a1) := ⟨by rw [← hq_]; exact (upR a3.out)⟩; have n1_ : Aside0 (Below w.heap.size w w39) := ⟨by rw [← hq_]; exact (upH HB.out)⟩; clear a3 HB hq_; have a3 := n0_; have HB := n1_; clear n0_ n1_))
     replace a3 := yaa (Kd.R_drew a3.out); replace HB := yaa (below_drew1 HB.out); have p116 : 0 ≤ ((ji26) : Int) := of_decide_eq_true (by assumption); have q116 : (ji26) < (a1.length : Int) := of_decide_eq_true (by assumption); obtain ⟨ad116, e7, c5⟩ := Kd.at_int (Kd.R_reads' a3.out).2.2 (ji26) p116 q116; obtain rfl : ad111 = ad116 := (by injection e7); replace p116 := eq_true p116; replace q116 := eq_true q116; have p118 : 0 ≤ ((ji26) : Int) := of_decide_eq_true (by assumption); have q118 : (ji26) < (a1.length : Int) := of_decide_eq_true (by assumption); obtain ⟨ad118, e8, c8⟩ := Kd.at_int (Kd.R_reads' a3.out).2.2 (ji26) p118 q118; obtain rfl : ad111 = ad118 := (by injection e8); replace p118 := eq_true p118; replace q118 := eq_true q118; have p120 : 0 ≤ ((ji26) : Int) := of_decide_eq_true (by assumption); have q120 : (ji26) < (a1.length : Int) := of_decide_eq_true (by assumption); obtain ⟨ad120, e9, d0⟩ := Kd.at_int (Kd.R_reads' a3.out).2.2 (ji26) p120 q120; obtain rfl : ad111 = ad120 := (by injection e9); replace p120 := eq_true p120; replace q120 := eq_true q120
     refine start_ (n := 21) (S := fun w' => w'.cell? (ad111.add ((ji26)).toNat) = some (.int .u64 (rd a1 (ji26))) ∧ w'.cell? (ad111.add ((ji26)).toNat) = some (.int .u64 (rd a1 (ji26))) ∧ w'.cell? (ad111.add ((ji26)).toNat) = some (.int .u64 (rd a1 (ji26)))) (ds := []) q100_38 (by kernel_rfl) rfl rfl ⟨c5, c8, d0⟩ (fun hHeld => ?_); refine with_tabW spec_l1Words.tab10 spec_l1Words.bits10 (fun HT_ HW_ => ?_)
     generalize w39.drew = w41 at a3 HB c5 c8 d0 hHeld ⊢
     refine pz_ 0 73 q100_39 HT_ (by kernel_rfl) ?_
     refine pz_ 1 74 q100_40 HT_ (by kernel_rfl) ?_
     refine pz_ 2 75 q100_41 HT_ (by kernel_rfl) ?_
     refine pz_ 3 76 q100_42 HT_ (by kernel_rfl) ?_
     refine pz_ 6 79 q100_43 HT_ (by kernel_rfl) ?_
     refine pz_ 7 80 q100_44 HT_ (by kernel_rfl) ?_
     refine pz_ 8 81 q100_45 HT_ (by kernel_rfl) ?_
     refine pz_ 9 82 q100_46 HT_ (by kernel_rfl) ?_
     refine pz_ 13 86 q100_47 HT_ (by kernel_rfl) ?_
     refine pz_ 14 87 q100_48 HT_ (by kernel_rfl) ?_
     refine pz_ 15 88 q100_49 HT_ (by kernel_rfl) ?_
     refine pz_ 16 89 q100_50 HT_ (by kernel_rfl) ?_
     refine tz_ 4 77 q100_51 HT_ HW_ (by kernel_rfl) hHeld ?_
     refine tz_ 10 83 q100_52 HT_ HW_ (by kernel_rfl) hHeld ?_
     refine tz_ 17 90 q100_53 HT_ HW_ (by kernel_rfl) hHeld ?_
     refine pz_ 18 91 q100_54 HT_ (by kernel_rfl) ?_
     refine one_ (i := 5) (N := some 78) q100_55 rfl rfl (one_of HT_.out (by kernel_rfl)) (by decide) (fun K hK => ?_)
     refine goes_ Tryz.func116 (by kernel_rfl) rfl #[.int .u64 (rd a1 (ji26)), .int .u64 17] (by rfl) rfl rfl (by (try simp only [List.map_toArray, List.map_cons, List.map_nil]); first | done | (simp only [hji26]; rfl) | rfl | (simp only [List.length_drop, List.length_take]; rfl)) ?_
     with_reducible refine (spec_l1Turn.calls (rd a1 (ji26)) 17 b5 _ A29.out).mono ?_
     rintro e w' ⟨rfl, ⟨nd, rfl⟩⟩; refine ⟨_, rfl, ?_⟩
     refine hK.out _ _ ⟨hHeld.1, hHeld.2.1, hHeld.2.2⟩ (fun hHeld => ?_)
     clear hK K
     refine norm_ (a' := ?_) ?_ ?_
     rotate_left
     ·
      show Act.put _ (some 78) _ = _
      simp only [Act.put, List.setIfInBounds_toArray, List.set_cons_zero, List.set_cons_succ, i64_w, i32_w]
      rfl
     refine one_ (i := 11) (N := some 84) q100_56 rfl rfl (one_of HT_.out (by kernel_rfl)) (by decide) (fun K hK => ?_)
     refine goes_ Tryz.func116 (by kernel_rfl) rfl #[.int .u64 (rd a1 (ji26)), .int .u64 19] (by rfl) rfl rfl (by (try simp only [List.map_toArray, List.map_cons, List.map_nil]); first | done | (simp only [hji26]; rfl) | rfl | (simp only [List.length_drop, List.length_take]; rfl)) ?_
     with_reducible refine (spec_l1Turn.calls (rd a1 (ji26)) 19 b6 _ A30.out).mono ?_
     rintro e w' ⟨rfl, ⟨nd, rfl⟩⟩; refine ⟨_, rfl, ?_⟩
     refine hK.out _ _ ⟨hHeld.1, hHeld.2.1, hHeld.2.2⟩ (fun hHeld => ?_)
     clear hK K
     refine norm_ (a' := ?_) ?_ ?_
     rotate_left
     ·
      show Act.put _ (some 84) _ = _
      simp only [Act.put, List.setIfInBounds_toArray, List.set_cons_zero, List.set_cons_succ, i64_w, i32_w]
      rfl
     refine pz_ 12 85 q100_57 HT_ (by kernel_rfl) ?_
     refine pz_ 19 92 q100_58 HT_ (by kernel_rfl) ?_
     refine pz_ 20 7 q100_59 HT_ (by kernel_rfl) ?_
     refine done_ (done_of HT_.out (by kernel_rfl)) ?_
     try go_wp2
     (try (rw [drewN_self w41]; generalize hq_ : World.drewN w41 _ = w41; have n0_ : Aside0 (Kd.R (Kd.int .u64) 149 w41 w.heap.size (fun _ => True) (.slice (some ad111) a1.length d6) a1) := ⟨by rw [← hq_]; exact (upR a3.out)⟩; have n1_ : Aside0 (Below w.heap.size w w41) := ⟨by rw [← hq_]; exact (upH HB.out)⟩; clear a3 HB hq_; have a3 := n0_; have HB := n1_; clear n0_ n1_))
     replace a3 := yaa (Kd.R_drew a3.out); replace HB := yaa (below_drew1 HB.out); have p121 : 0 ≤ ((ji31) : Int) := of_decide_eq_true (by assumption); have q121 : (ji31) < (a1.length : Int) := of_decide_eq_true (by assumption); obtain ⟨ad121, f0, d1⟩ := Kd.at_int (Kd.R_reads' a3.out).2.2 (ji31) p121 q121; obtain rfl : ad111 = ad121 := (by injection f0); replace p121 := eq_true p121; replace q121 := eq_true q121; have p122 : 0 ≤ ((ji34) : Int) := of_decide_eq_true (by assumption); have q122 : (ji34) < (a1.length : Int) := of_decide_eq_true (by assumption); obtain ⟨ad122, f1, d2⟩ := Kd.at_int (Kd.R_reads' a3.out).2.2 (ji34) p122 q122; obtain rfl : ad111 = ad122 := (by injection f1); replace p122 := eq_true p122; replace q122 := eq_true q122
     refine start_ (n := 20) (S := fun w' => w'.cell? (ad111.add ((ji31)).toNat) = some (.int .u64 (rd a1 (ji31))) ∧ w'.cell? (ad111.add ((ji34)).toNat) = some (.int .u64 (rd a1 (ji34)))) (ds := [17, 18]) q100_60 (by kernel_rfl) rfl rfl ⟨d1, d2⟩ (fun hHeld => ?_); refine with_tabW spec_l1Words.tab11 spec_l1Words.bits11 (fun HT_ HW_ => ?_)
     generalize w41.drew = w42 at a3 HB d1 d2 hHeld ⊢
     refine pz_ 0 93 q100_61 HT_ (by kernel_rfl) ?_
     refine pz_ 1 94 q100_62 HT_ (by kernel_rfl) ?_
     refine pz_ 2 95 q100_63 HT_ (by kernel_rfl) ?_
     refine pz_ 3 96 q100_64 HT_ (by kernel_rfl) ?_
     refine pz_ 4 97 q100_65 HT_ (by kernel_rfl) ?_
     refine pz_ 6 99 q100_66 HT_ (by kernel_rfl) ?_
     refine pz_ 8 101 q100_67 HT_ (by kernel_rfl) ?_
     refine pz_ 9 102 q100_68 HT_ (by kernel_rfl) ?_
     refine pz_ 10 103 q100_69 HT_ (by kernel_rfl) ?_
     refine pz_ 11 104 q100_70 HT_ (by kernel_rfl) ?_
     refine pz_ 14 107 q100_71 HT_ (by kernel_rfl) ?_
     refine tz_ 5 98 q100_72 HT_ HW_ (by kernel_rfl) hHeld ?_
     refine pz_ 7 100 q100_73 HT_ (by kernel_rfl) ?_
     refine tz_ 12 105 q100_74 HT_ HW_ (by kernel_rfl) hHeld ?_
     refine pz_ 13 106 q100_75 HT_ (by kernel_rfl) ?_
     refine pz_ 15 108 q100_76 HT_ (by kernel_rfl) ?_
     refine one_ (i := 16) (N := some 109) q100_77 rfl rfl (one_of HT_.out (by kernel_rfl)) (by decide) (fun K hK => ?_)
     refine goes_ Tryz.func102 (by kernel_rfl) rfl #[.int .u64 (IntKind.u64.wrap ((IntKind.u64.wrap ((IntKind.u64.wrap ((rd a1 (ji31)) + (Go.bits .xor .u64 (Go.bits .xor .u64 b7 b8) ((rd a1 (ji21)) / 8)))) + (rd a1 (ji34)))) + (Go.bits .xor .u64 (Go.bits .xor .u64 b5 b6) ((rd a1 (ji26)) / 1024))))] (by rfl) rfl rfl (by (try simp only [List.map_toArray, List.map_cons, List.map_nil]); first | done | (simp only [hji21, hji26, hji31, hji34]; rfl) | rfl | (simp only [List.length_drop, List.length_take]; rfl)) ?_
     with_reducible refine (spec_l1Word.calls (IntKind.u64.wrap ((IntKind.u64.wrap ((IntKind.u64.wrap ((rd a1 (ji31)) + (Go.bits .xor .u64 (Go.bits .xor .u64 b7 b8) ((rd a1 (ji21)) / 8)))) + (rd a1 (ji34)))) + (Go.bits .xor .u64 (Go.bits .xor .u64 b5 b6) ((rd a1 (ji26)) / 1024)))) b0 _ A37.out).mono ?_
     rintro e w' ⟨rfl, ⟨nd, rfl⟩⟩; refine ⟨_, rfl, ?_⟩
     refine hK.out _ _ ⟨hHeld.1, hHeld.2⟩ (fun hHeld => ?_)
     clear hK K
     refine norm_ (a' := ?_) ?_ ?_
     rotate_left
     ·
      show Act.put _ (some 109) _ = _
      simp only [Act.put, List.setIfInBounds_toArray, List.set_cons_zero, List.set_cons_succ, i64_w, i32_w]
      rfl
     refine last_ (i := 17) (N := some 110) q100_78 rfl rfl (one_of HT_.out (by kernel_rfl)) (by decide) (fun K hK => ?_)
     refine value_ (w1 := ?_) (v := ?_) (by rfl) rfl ?_ ?_
     rotate_left 2
     ·
      go_simp
      constructor
      ·
       rfl
      ·
       rfl
     refine hK.out _ _ ?_
     clear hK K
     refine norm_ (a' := ?_) ?_ ?_
     rotate_left
     ·
      show Act.put _ (some 110) _ = _
      simp only [Act.put, List.setIfInBounds_toArray, List.set_cons_zero, List.set_cons_succ, i64_w, i32_w]
      rfl
     refine last_ (i := 18) (N := some 111) q100_79 rfl rfl (one_of HT_.out (by kernel_rfl)) (by decide) (fun K hK => ?_)
     refine Kd.R_append_step (Kd.int .u64) (w0 := w) w.heap.size (by rfl) (.tmp 93) (.tmp 110) 156 149 (.int .u64 0) 8 rfl Tryz.underlying156 info149 rfl (by decide) (by omega) (.slice (some ad111) a1.length d6) a1 b0 [.int .u64 b0] (fun _ => True) (fun _ => False) rfl rfl ?aP (fun _ hk => hk.elim) ?aF ?aO ?aB ?aS ?aL ?_
     (case aP => exact rfl)
     (case aB => exact (upH HB.out))
     (case aF => exact (fun _ _ => trivial))
     (case aO => exact (upR a3.out))
     (case aS => exact (below_size (upH HB.out)))
     (case aL => have := LMc38.out; omega)
     intro g4 w43 ho hb hg hat
     rw [← Ny124.out] at ho
     replace HB := yaa (hb); have d5 := yaa (ho); clear a3; clear ho hb hg hat
     refine hK.out _ _ ?_
     clear hK K
     refine norm_ (a' := ?_) ?_ ?_
     rotate_left
     ·
      show Act.put _ (some 111) _ = _
      simp only [Act.put, List.setIfInBounds_toArray, List.set_cons_zero, List.set_cons_succ, i64_w, i32_w]
      rfl
     refine pz_ 19 3 q100_80 HT_ (by kernel_rfl) ?_
     refine done_ (done_of HT_.out (by kernel_rfl)) ?_
     try go_wp2
     go_roundg k2
     case measure => have := HK1.out; have := HK2.out; omega
     case rel => exact ⟨(y124), (wrap64 (a2 + 1)), (by first | rfl | (simp; done) | (simp [*]; done)), H', ⟨by have := HK1.out; have := HK2.out; omega⟩, ⟨by first | exact d5.out | exact upR d5.out⟩, ⟨upH HB.out⟩⟩
end
section
open Go.Proofs.YtmplnpjdbfedbaaGreatDoorW.PrintWords.Kd renaming at_int → yaa
abbrev q101_0 : Array Bool := Array.replicate 15 false
abbrev q101_1 : Array Bool := bl_ 15 1
abbrev q101_2 : Array Bool := bl_ 15 3
abbrev q101_3 : Array Bool := bl_ 15 19
abbrev q101_4 : Array Bool := bl_ 15 51
abbrev q101_5 : Array Bool := bl_ 15 563
abbrev q101_6 : Array Bool := bl_ 15 1587
abbrev q101_7 : Array Bool := bl_ 15 1591
abbrev q101_8 : Array Bool := bl_ 15 1655
abbrev q101_9 : Array Bool := bl_ 15 3703
abbrev q101_10 : Array Bool := bl_ 15 3711
abbrev q101_11 : Array Bool := bl_ 15 3839
abbrev q101_12 : Array Bool := bl_ 15 4095
abbrev q101_13 : Array Bool := bl_ 15 8191
abbrev q101_14 : Array Bool := bl_ 15 16383
abbrev q101_15 : Array Bool := bl_ 15 32767
abbrev q101_16 : Array Bool := Array.replicate 17 false
abbrev q101_17 : Array Bool := bl_ 17 1
abbrev q101_18 : Array Bool := bl_ 17 3
abbrev q101_19 : Array Bool := bl_ 17 11
abbrev q101_20 : Array Bool := bl_ 17 27
abbrev q101_21 : Array Bool := bl_ 17 155
abbrev q101_22 : Array Bool := bl_ 17 411
abbrev q101_23 : Array Bool := bl_ 17 2459
abbrev q101_24 : Array Bool := bl_ 17 6555
abbrev q101_25 : Array Bool := bl_ 17 6559
abbrev q101_26 : Array Bool := bl_ 17 6591
abbrev q101_27 : Array Bool := bl_ 17 6655
abbrev q101_28 : Array Bool := bl_ 17 7167
abbrev q101_29 : Array Bool := bl_ 17 8191
abbrev q101_30 : Array Bool := bl_ 17 16383
abbrev q101_31 : Array Bool := bl_ 17 32767
abbrev q101_32 : Array Bool := bl_ 17 65535
abbrev q101_33 : Array Bool := bl_ 17 131071
abbrev q101_34 : Array Bool := Array.replicate 24 false
abbrev q101_35 : Array Bool := bl_ 24 1
abbrev q101_36 : Array Bool := bl_ 24 3
abbrev q101_37 : Array Bool := bl_ 24 11
abbrev q101_38 : Array Bool := bl_ 24 27
abbrev q101_39 : Array Bool := bl_ 24 155
abbrev q101_40 : Array Bool := bl_ 24 411
abbrev q101_41 : Array Bool := bl_ 24 1435
abbrev q101_42 : Array Bool := bl_ 24 3483
abbrev q101_43 : Array Bool := bl_ 24 36251
abbrev q101_44 : Array Bool := bl_ 24 101787
abbrev q101_45 : Array Bool := bl_ 24 363931
abbrev q101_46 : Array Bool := bl_ 24 888219
abbrev q101_47 : Array Bool := bl_ 24 888223
abbrev q101_48 : Array Bool := bl_ 24 888255
abbrev q101_49 : Array Bool := bl_ 24 888319
abbrev q101_50 : Array Bool := bl_ 24 888831
abbrev q101_51 : Array Bool := bl_ 24 892927
abbrev q101_52 : Array Bool := bl_ 24 901119
abbrev q101_53 : Array Bool := bl_ 24 917503
abbrev q101_54 : Array Bool := bl_ 24 1048575
abbrev q101_55 : Array Bool := bl_ 24 2097151
abbrev q101_56 : Array Bool := bl_ 24 4194303
abbrev q101_57 : Array Bool := bl_ 24 8388607
abbrev q101_58 : Array Bool := bl_ 24 16777215
abbrev q101_59 : Array Bool := Array.replicate 30 false
abbrev q101_60 : Array Bool := bl_ 30 1
abbrev q101_61 : Array Bool := bl_ 30 3
abbrev q101_62 : Array Bool := bl_ 30 7
abbrev q101_63 : Array Bool := bl_ 30 23
abbrev q101_64 : Array Bool := bl_ 30 55
abbrev q101_65 : Array Bool := bl_ 30 183
abbrev q101_66 : Array Bool := bl_ 30 439
abbrev q101_67 : Array Bool := bl_ 30 1463
abbrev q101_68 : Array Bool := bl_ 30 3511
abbrev q101_69 : Array Bool := bl_ 30 11703
abbrev q101_70 : Array Bool := bl_ 30 28087
abbrev q101_71 : Array Bool := bl_ 30 93623
abbrev q101_72 : Array Bool := bl_ 30 617911
abbrev q101_73 : Array Bool := bl_ 30 1666487
abbrev q101_74 : Array Bool := bl_ 30 5860791
abbrev q101_75 : Array Bool := bl_ 30 14249399
abbrev q101_76 : Array Bool := bl_ 30 47803831
abbrev q101_77 : Array Bool := bl_ 30 114912695
abbrev q101_78 : Array Bool := bl_ 30 114912759
abbrev q101_79 : Array Bool := bl_ 30 114913271
abbrev q101_80 : Array Bool := bl_ 30 114917367
abbrev q101_81 : Array Bool := bl_ 30 114950135
abbrev q101_82 : Array Bool := bl_ 30 115081207
abbrev q101_83 : Array Bool := bl_ 30 117178359
abbrev q101_84 : Array Bool := bl_ 30 133955575
abbrev q101_85 : Array Bool := bl_ 30 268173303
abbrev q101_86 : Array Bool := bl_ 30 268173311
abbrev q101_87 : Array Bool := bl_ 30 268435455
abbrev q101_88 : Array Bool := bl_ 30 536870911
abbrev q101_89 : Array Bool := bl_ 30 1073741823
def spec_l1Step.f (l0 : List Int) (a1 : Int) (a2 : Int) : Option (List Int) := if 4 < (l0.length : Int) then ((spec_l1Turn.f (rd l0 4) 6).bind fun t102 => ((spec_l1Turn.f (rd l0 4) 11).bind fun t104 => ((spec_l1Turn.f (rd l0 4) 25).bind fun t106 => (if 5 < (l0.length : Int) then (if 6 < (l0.length : Int) then (if 7 < (l0.length : Int) then ((spec_l1Word.f (IntKind.u64.wrap ((IntKind.u64.wrap ((IntKind.u64.wrap ((IntKind.u64.wrap ((rd l0 7) + (Go.bits .xor .u64 (Go.bits .xor .u64 t102 t104) t106))) + (Go.bits .xor .u64 (Go.bits .and .u64 (rd l0 4) (rd l0 5)) (Go.bits .and .u64 (Go.bits .xor .u64 4294967295 (rd l0 4)) (rd l0 6))))) + a1)) + a2))).bind fun t112 => (if 0 < (l0.length : Int) then ((spec_l1Turn.f (rd l0 0) 2).bind fun t114 => ((spec_l1Turn.f (rd l0 0) 13).bind fun t116 => ((spec_l1Turn.f (rd l0 0) 22).bind fun t118 => (if 1 < (l0.length : Int) then (if 2 < (l0.length : Int) then ((spec_l1Word.f (IntKind.u64.wrap ((Go.bits .xor .u64 (Go.bits .xor .u64 t114 t116) t118) + (Go.bits .xor .u64 (Go.bits .xor .u64 (Go.bits .and .u64 (rd l0 0) (rd l0 1)) (Go.bits .and .u64 (rd l0 0) (rd l0 2))) (Go.bits .and .u64 (rd l0 1) (rd l0 2)))))).bind fun t125 => ((spec_l1Word.f (IntKind.u64.wrap (t112 + t125))).bind fun t126 => (if 3 < (l0.length : Int) then ((spec_l1Word.f (IntKind.u64.wrap ((rd l0 3) + t112))).bind fun t131 => (some (([t126, rd l0 0, rd l0 1, rd l0 2, t131, rd l0 4, rd l0 5, rd l0 6] : List Int)))) else (none)))) else (none)) else (none))))) else (none))) else (none)) else (none)) else (none))))) else (none)
def spec_l1Step.T1 : Bool × List (List Nat × List Nat) := (true, [([], []), ([0], [0]), ([1], [1]), ([2], [2]), ([], []), ([4], [4]), ([5], [5]), ([6, 3], [6]), ([3, 7], [3, 7]), ([], []), ([9], [9]), ([10], [10]), ([11, 7], [11]), ([8, 12], [8, 12]), ([13, 12, 0, 1, 2, 3, 4, 5, 6, 7, 8, 9, 10, 11, 12, 13], [13])])
def spec_l1Step.B1 : List Nat := [0, 1, 3, 7, 0, 16, 48, 127, 255, 0, 512, 1536, 3839, 8191, 16383]
theorem spec_l1Step.tab1 : rtab .any (opsOf Tryz.f101 1) = spec_l1Step.T1 := by kernel_rfl
theorem spec_l1Step.bits1 : waitsOk spec_l1Step.T1.2 spec_l1Step.B1 = true := by kernel_rfl
def spec_l1Step.T2 : Bool × List (List Nat × List Nat) := (true, [([], []), ([0], [0]), ([1], [1]), ([], []), ([3], [3]), ([4], [4]), ([2, 5], [2, 5]), ([], []), ([7], [7]), ([8], [8]), ([9], [9]), ([], []), ([11], [11]), ([12], [12]), ([10, 13], [10, 13]), ([6, 14], [6, 14]), ([15, 0, 1, 2, 3, 4, 5, 6, 7, 8, 9, 10, 11, 12, 13, 14, 15], [15])])
def spec_l1Step.B2 : List Nat := [0, 1, 3, 0, 8, 24, 63, 0, 128, 384, 896, 0, 2048, 6144, 16256, 32767, 65535]
theorem spec_l1Step.tab2 : rtab .any (opsOf Tryz.f101 2) = spec_l1Step.T2 := by kernel_rfl
theorem spec_l1Step.bits2 : waitsOk spec_l1Step.T2.2 spec_l1Step.B2 = true := by kernel_rfl
def spec_l1Step.T4 : Bool × List (List Nat × List Nat) := (true, [([], []), ([0], [0]), ([1], [1]), ([2], [2]), ([], []), ([4], [4]), ([5], [5]), ([6, 3], [6]), ([3, 7], [3, 7]), ([], []), ([9], [9]), ([10], [10]), ([11, 7], [11]), ([8, 12], [8, 12]), ([13, 12, 0, 1, 2, 3, 4, 5, 6, 7, 8, 9, 10, 11, 12, 13], [13])])
def spec_l1Step.B4 : List Nat := [0, 1, 3, 7, 0, 16, 48, 127, 255, 0, 512, 1536, 3839, 8191, 16383]
theorem spec_l1Step.tab4 : rtab .any (opsOf Tryz.f101 4) = spec_l1Step.T4 := by kernel_rfl
theorem spec_l1Step.bits4 : waitsOk spec_l1Step.T4.2 spec_l1Step.B4 = true := by kernel_rfl
def spec_l1Step.T5 : Bool × List (List Nat × List Nat) := (true, [([], []), ([0], [0]), ([1], [1]), ([], []), ([3], [3]), ([4], [4]), ([2, 5], [2, 5]), ([], []), ([7], [7]), ([8], [8]), ([], []), ([10], [10]), ([11], [11]), ([9, 12], [9, 12]), ([6, 13], [6, 13]), ([], []), ([15], [15]), ([16], [16]), ([], []), ([18], [18]), ([19], [19]), ([17, 20], [17, 20]), ([14, 21], [14, 21]), ([22, 0, 1, 2, 3, 4, 5, 6, 7, 8, 9, 10, 11, 12, 13, 14, 15, 16, 17, 18, 19, 20, 21, 22], [22])])
def spec_l1Step.B5 : List Nat := [0, 1, 3, 0, 8, 24, 63, 0, 128, 384, 0, 1024, 3072, 8064, 16383, 0, 32768, 98304, 0, 262144, 786432, 2064384, 4194303, 8388607]
theorem spec_l1Step.tab5 : rtab .any (opsOf Tryz.f101 5) = spec_l1Step.T5 := by kernel_rfl
theorem spec_l1Step.bits5 : waitsOk spec_l1Step.T5.2 spec_l1Step.B5 = true := by kernel_rfl
def spec_l1Step.T7 : Bool × List (List Nat × List Nat) := (true, [([], []), ([], []), ([0, 1], [0, 1]), ([2], [2]), ([], []), ([4], [4]), ([5], [5]), ([], []), ([7], [7]), ([8], [8]), ([], []), ([10], [10]), ([11], [11]), ([], []), ([13], [13]), ([14], [14]), ([], []), ([15, 16], [15, 16]), ([17, 3], [17]), ([], []), ([19], [19]), ([20], [20]), ([], []), ([22], [22]), ([23], [23]), ([], []), ([25], [25]), ([26], [26]), ([3, 6, 9, 12, 18, 21, 24, 27], [3, 6, 9, 12, 18, 21, 24, 27]), ([28, 18, 0, 1, 2, 3, 4, 5, 6, 7, 8, 9, 10, 11, 12, 13, 14, 15, 16, 17, 18, 19, 20, 21, 22, 23, 24, 25, 26, 27, 28], [28])])
def spec_l1Step.B7 : List Nat := [0, 0, 3, 7, 0, 16, 48, 0, 128, 384, 0, 1024, 3072, 0, 8192, 24576, 0, 122880, 253967, 0, 524288, 1572864, 0, 4194304, 12582912, 0, 33554432, 100663296, 268435455, 536870911]
theorem spec_l1Step.tab7 : rtab .any (opsOf Tryz.f101 7) = spec_l1Step.T7 := by kernel_rfl
theorem spec_l1Step.bits7 : waitsOk spec_l1Step.T7.2 spec_l1Step.B7 = true := by kernel_rfl
set_option maxHeartbeats 8000000 in
set_option maxRecDepth 100000 in
theorem spec_l1Step.calls (A0 : Option Addr) (c0 : Nat) (l0 : List Int) (a1 : Int) (a2 : Int) (r : List Int) (w : World) (hr0 : Kd.C (Kd.int .u64) w A0 l0.length l0) (hc0 : l0.length ≤ c0) (h : spec_l1Step.f l0 a1 a2 = some r) :
  Calls Tryz.prog 101 #[.slice A0 l0.length c0, .int .u64 a1, .int .u64 a2] w fun e w' => ∃ v0_ : Value, e = .returned (v0_) ∧ Kd.R (Kd.int .u64) 149 w' w.heap.size (fun _ => True) v0_ r ∧ Below w.heap.size w w' := by
 have HR0 := Aside0.mk hr0; have HC0 := Aside0.mk hc0; clear hr0 hc0; have HB := Aside0.mk (Below.refl w.heap.size w); have H : (if 4 < (l0.length : Int) then ((spec_l1Turn.f (rd l0 4) 6).bind fun f6 => ((spec_l1Turn.f (rd l0 4) 11).bind fun f7 => ((spec_l1Turn.f (rd l0 4) 25).bind fun f8 => (if 5 < (l0.length : Int) then (if 6 < (l0.length : Int) then (if 7 < (l0.length : Int) then ((spec_l1Word.f (IntKind.u64.wrap ((IntKind.u64.wrap ((IntKind.u64.wrap ((IntKind.u64.wrap ((rd l0 7) + (Go.bits .xor .u64 (Go.bits .xor .u64 f6 f7) f8))) + (Go.bits .xor .u64 (Go.bits .and .u64 (rd l0 4) (rd l0 5)) (Go.bits .and .u64 (Go.bits .xor .u64 4294967295 (rd l0 4)) (rd l0 6))))) + a1)) + a2))).bind fun f3 => (if 0 < (l0.length : Int) then ((spec_l1Turn.f (rd l0 0) 2).bind fun f9 => ((spec_l1Turn.f (rd l0 0) 13).bind fun g0 => ((spec_l1Turn.f (rd l0 0) 22).bind fun g1 => (if 1 < (l0.length : Int) then (if 2 < (l0.length : Int) then ((spec_l1Word.f (IntKind.u64.wrap ((Go.bits .xor .u64 (Go.bits .xor .u64 f9 g0) g1) + (Go.bits .xor .u64 (Go.bits .xor .u64 (Go.bits .and .u64 (rd l0 0) (rd l0 1)) (Go.bits .and .u64 (rd l0 0) (rd l0 2))) (Go.bits .and .u64 (rd l0 1) (rd l0 2)))))).bind fun g2 => ((spec_l1Word.f (IntKind.u64.wrap (f3 + g2))).bind fun f4 => (if 3 < (l0.length : Int) then ((spec_l1Word.f (IntKind.u64.wrap ((rd l0 3) + f3))).bind fun f5 => (some (([f4, rd l0 0, rd l0 1, rd l0 2, f5, rd l0 4, rd l0 5, rd l0 6] : List Int)))) else (none)))) else (none)) else (none))))) else (none))) else (none)) else (none)) else (none))))) else (none)) = some r := h; clear h
 by_cases c4 : 4 < (l0.length : Int)
 rotate_left
 ·
  rw [if_neg c4] at H
  exact absurd H (by simp)
 rw [if_pos c4] at H
 have j9 : decide (4 < (l0.length : Int)) = true := decide_eq_true c4; have k0 : decide (4 < l0.length) = true := decide_eq_true (by omega); clear c4; obtain ⟨f6, A5, H⟩ := bindA H; (try dsimp only at H); obtain ⟨f7, A6, H⟩ := bindA H; (try dsimp only at H); obtain ⟨f8, A7, H⟩ := bindA H; (try dsimp only at H)
 by_cases c8 : 5 < (l0.length : Int)
 rotate_left
 ·
  rw [if_neg c8] at H
  exact absurd H (by simp)
 rw [if_pos c8] at H
 have k1 : decide (5 < (l0.length : Int)) = true := decide_eq_true c8; have k2 : decide (5 < l0.length) = true := decide_eq_true (by omega); clear c8
 by_cases c9 : 6 < (l0.length : Int)
 rotate_left
 ·
  rw [if_neg c9] at H
  exact absurd H (by simp)
 rw [if_pos c9] at H
 have k3 : decide (6 < (l0.length : Int)) = true := decide_eq_true c9; have k4 : decide (6 < l0.length) = true := decide_eq_true (by omega); clear c9
 by_cases c10 : 7 < (l0.length : Int)
 rotate_left
 ·
  rw [if_neg c10] at H
  exact absurd H (by simp)
 rw [if_pos c10] at H
 have i9 : decide (7 < (l0.length : Int)) = true := decide_eq_true c10; have j0 : decide (7 < l0.length) = true := decide_eq_true (by omega); clear c10; obtain ⟨f3, A11, H⟩ := bindA H; (try dsimp only at H)
 by_cases c12 : 0 < (l0.length : Int)
 rotate_left
 ·
  rw [if_neg c12] at H
  exact absurd H (by simp)
 rw [if_pos c12] at H
 have j1 : decide (0 < (l0.length : Int)) = true := decide_eq_true c12; have j2 : decide (0 < l0.length) = true := decide_eq_true (by omega); clear c12; obtain ⟨f9, A13, H⟩ := bindA H; (try dsimp only at H); obtain ⟨g0, A14, H⟩ := bindA H; (try dsimp only at H); obtain ⟨g1, A15, H⟩ := bindA H; (try dsimp only at H)
 by_cases c16 : 1 < (l0.length : Int)
 rotate_left
 ·
  rw [if_neg c16] at H
  exact absurd H (by simp)
 rw [if_pos c16] at H
 have j3 : decide (1 < (l0.length : Int)) = true := decide_eq_true c16; have j4 : decide (1 < l0.length) = true := decide_eq_true (by omega); clear c16
 by_cases c17 : 2 < (l0.length : Int)
 rotate_left
 ·
  rw [if_neg c17] at H
  exact absurd H (by simp)
 rw [if_pos c17] at H
 have j5 : decide (2 < (l0.length : Int)) = true := decide_eq_true c17; have j6 : decide (2 < l0.length) = true := decide_eq_true (by omega); clear c17; obtain ⟨g2, A18, H⟩ := bindA H; (try dsimp only at H); obtain ⟨f4, A19, H⟩ := bindA H; (try dsimp only at H)
 by_cases c20 : 3 < (l0.length : Int)
 rotate_left
 ·
  rw [if_neg c20] at H
  exact absurd H (by simp)
 rw [if_pos c20] at H
 have j7 : decide (3 < (l0.length : Int)) = true := decide_eq_true c20; have j8 : decide (3 < l0.length) = true := decide_eq_true (by omega); clear c20; obtain ⟨f5, A21, H⟩ := bindA H; (try dsimp only at H); obtain ⟨y135, hy135⟩ : ∃ y_ : List Int, y_ = (([f4, rd l0 0, rd l0 1, rd l0 2, f5, rd l0 4, rd l0 5, rd l0 6] : List Int)) := ⟨_, rfl⟩
 replace H : (some y135) = some r := by first | (rw [hy135]; with_reducible exact H) | (have H2_ := (Option.bind_some _ _).symm.trans H; rw [hy135]; with_reducible exact H2_) | (have H2_ := (Option.bind_some _ _).symm.trans H; with_reducible exact H2_) | with_reducible exact H | (rw [hy135]; exact H) | exact H
 have Ny135 := Aside0.mk hy135; clear hy135; obtain rfl := Option.some.inj H
 go_enter Tryz.func101, Tryz.ntmps101
 try go_wp2
 replace HB := Aside0.mk (below_drew1 HB.out); have p101 : 0 ≤ (4 : Int) := (by omega); have q101 : 4 < (l0.length : Int) := of_decide_eq_true (by assumption); obtain ⟨ad101, g5, b5⟩ := yaa HR0.out 4 p101 q101; have a0 := b5
 (try rw [show ((4 : Int)).toNat = 4 from rfl] at a0)
 (try rw [show 4 * 1 = 4 from rfl] at a0)
 (try simp only [Nat.reduceMul, Nat.reduceEqDiff, Go.Addr.add, ↓reduceIte] at a0)
 cases g5
 (try simp only [show (4 : Int).toNat = 4 from rfl, Nat.reduceMul, Nat.reduceEqDiff, Go.Addr.add, ↓reduceIte] at b5)
 have qi101 : (4 < l0.length) = True := eq_true (by omega)
 (try rw [show ((4 : Int)).toNat = 4 from rfl] at b5)
 replace b5 := (upc_ HB.out b5 :); replace p101 := eq_true p101; replace q101 := eq_true q101; have p103 : 0 ≤ (4 : Int) := (by omega); have q103 : 4 < (l0.length : Int) := of_decide_eq_true (by assumption); obtain ⟨ad103, g6, b6⟩ := yaa HR0.out 4 p103 q103; have a3 := b6
 (try rw [show ((4 : Int)).toNat = 4 from rfl] at a3)
 (try rw [show 4 * 1 = 4 from rfl] at a3)
 (try simp only [Nat.reduceMul, Nat.reduceEqDiff, Go.Addr.add, ↓reduceIte] at a3)
 obtain rfl : ad101 = ad103 := (by injection g6)
 (try simp only [show (4 : Int).toNat = 4 from rfl, Nat.reduceMul, Nat.reduceEqDiff, Go.Addr.add, ↓reduceIte] at b6)
 have qi103 : (4 < l0.length) = True := eq_true (by omega)
 (try rw [show ((4 : Int)).toNat = 4 from rfl] at b6)
 replace b6 := (upc_ HB.out b6 :); replace p103 := eq_true p103; replace q103 := eq_true q103; have p105 : 0 ≤ (4 : Int) := (by omega); have q105 : 4 < (l0.length : Int) := of_decide_eq_true (by assumption); obtain ⟨ad105, g7, b7⟩ := yaa HR0.out 4 p105 q105; have a4 := b7
 (try rw [show ((4 : Int)).toNat = 4 from rfl] at a4)
 (try rw [show 4 * 1 = 4 from rfl] at a4)
 (try simp only [Nat.reduceMul, Nat.reduceEqDiff, Go.Addr.add, ↓reduceIte] at a4)
 obtain rfl : ad101 = ad105 := (by injection g7)
 (try simp only [show (4 : Int).toNat = 4 from rfl, Nat.reduceMul, Nat.reduceEqDiff, Go.Addr.add, ↓reduceIte] at b7)
 have qi105 : (4 < l0.length) = True := eq_true (by omega)
 (try rw [show ((4 : Int)).toNat = 4 from rfl] at b7)
 replace b7 := (upc_ HB.out b7 :); replace p105 := eq_true p105; replace q105 := eq_true q105
 refine start_ (n := 15) (S := fun w' => w'.cell? ⟨ad101.block, ad101.off + 4, none⟩ = some (.int .u64 (rd l0 4)) ∧ w'.cell? ⟨ad101.block, ad101.off + 4, none⟩ = some (.int .u64 (rd l0 4)) ∧ w'.cell? ⟨ad101.block, ad101.off + 4, none⟩ = some (.int .u64 (rd l0 4))) (ds := []) q101_0 (by kernel_rfl) rfl rfl ⟨(upc_ HB.out a0 :), (upc_ HB.out a3 :), (upc_ HB.out a4 :)⟩ (fun hHeld => ?_); refine with_tabW spec_l1Step.tab1 spec_l1Step.bits1 (fun HT_ HW_ => ?_)
 generalize w.drew = w22 at HB b5 b6 b7 hHeld ⊢
 refine pz_ 0 13 q101_1 HT_ (by kernel_rfl) ?_
 refine pz_ 1 14 q101_2 HT_ (by kernel_rfl) ?_
 refine pz_ 4 17 q101_3 HT_ (by kernel_rfl) ?_
 refine pz_ 5 18 q101_4 HT_ (by kernel_rfl) ?_
 refine pz_ 9 22 q101_5 HT_ (by kernel_rfl) ?_
 refine pz_ 10 23 q101_6 HT_ (by kernel_rfl) ?_
 refine tz_ 2 15 q101_7 HT_ HW_ (by kernel_rfl) hHeld ?_
 refine tz_ 6 19 q101_8 HT_ HW_ (by kernel_rfl) hHeld ?_
 refine tz_ 11 24 q101_9 HT_ HW_ (by kernel_rfl) hHeld ?_
 refine one_ (i := 3) (N := some 16) q101_10 rfl rfl (one_of HT_.out (by kernel_rfl)) (by decide) (fun K hK => ?_)
 refine goes_ Tryz.func116 (by kernel_rfl) rfl #[.int .u64 (rd l0 4), .int .u64 6] (by rfl) rfl rfl (by (try simp only [List.map_toArray, List.map_cons, List.map_nil]); first | done | rfl | (simp only [List.length_drop, List.length_take]; rfl)) ?_
 with_reducible refine (spec_l1Turn.calls (rd l0 4) 6 f6 _ A5.out).mono ?_
 rintro e w' ⟨rfl, ⟨nd, rfl⟩⟩; refine ⟨_, rfl, ?_⟩
 refine hK.out _ _ ⟨(upc_ HB.out a0 :), (upc_ HB.out a3 :), (upc_ HB.out a4 :)⟩ (fun hHeld => ?_)
 clear hK K
 refine norm_ (a' := ?_) ?_ ?_
 rotate_left
 ·
  show Act.put _ (some 16) _ = _
  simp only [Act.put, List.setIfInBounds_toArray, List.set_cons_zero, List.set_cons_succ, i64_w, i32_w]
  rfl
 refine one_ (i := 7) (N := some 20) q101_11 rfl rfl (one_of HT_.out (by kernel_rfl)) (by decide) (fun K hK => ?_)
 refine goes_ Tryz.func116 (by kernel_rfl) rfl #[.int .u64 (rd l0 4), .int .u64 11] (by rfl) rfl rfl (by (try simp only [List.map_toArray, List.map_cons, List.map_nil]); first | done | rfl | (simp only [List.length_drop, List.length_take]; rfl)) ?_
 with_reducible refine (spec_l1Turn.calls (rd l0 4) 11 f7 _ A6.out).mono ?_
 rintro e w' ⟨rfl, ⟨nd, rfl⟩⟩; refine ⟨_, rfl, ?_⟩
 refine hK.out _ _ ⟨(upc_ HB.out a0 :), (upc_ HB.out a3 :), (upc_ HB.out a4 :)⟩ (fun hHeld => ?_)
 clear hK K
 refine norm_ (a' := ?_) ?_ ?_
 rotate_left
 ·
  show Act.put _ (some 20) _ = _
  simp only [Act.put, List.setIfInBounds_toArray, List.set_cons_zero, List.set_cons_succ, i64_w, i32_w]
  rfl
 refine pz_ 8 21 q101_12 HT_ (by kernel_rfl) ?_
 refine one_ (i := 12) (N := some 25) q101_13 rfl rfl (one_of HT_.out (by kernel_rfl)) (by decide) (fun K hK => ?_)
 refine goes_ Tryz.func116 (by kernel_rfl) rfl #[.int .u64 (rd l0 4), .int .u64 25] (by rfl) rfl rfl (by (try simp only [List.map_toArray, List.map_cons, List.map_nil]); first | done | rfl | (simp only [List.length_drop, List.length_take]; rfl)) ?_
 with_reducible refine (spec_l1Turn.calls (rd l0 4) 25 f8 _ A7.out).mono ?_
 rintro e w' ⟨rfl, ⟨nd, rfl⟩⟩; refine ⟨_, rfl, ?_⟩
 refine hK.out _ _ ⟨(upc_ HB.out a0 :), (upc_ HB.out a3 :), (upc_ HB.out a4 :)⟩ (fun hHeld => ?_)
 clear hK K
 refine norm_ (a' := ?_) ?_ ?_
 rotate_left
 ·
  show Act.put _ (some 25) _ = _
  simp only [Act.put, List.setIfInBounds_toArray, List.set_cons_zero, List.set_cons_succ, i64_w, i32_w]
  rfl
 refine pz_ 13 26 q101_14 HT_ (by kernel_rfl) ?_
 refine pz_ 14 7 q101_15 HT_ (by kernel_rfl) ?_
 refine done_ (done_of HT_.out (by kernel_rfl)) ?_
 try go_wp2
 (try (rw [drewN_self w22]; generalize hq_ : World.drewN w22 _ = w22; have n0_ : Aside0 (Below w.heap.size w w22) := ⟨by rw [← hq_]; exact (upH HB.out)⟩; clear HB hq_; have HB := n0_; clear n0_))
 replace HB := Aside0.mk (below_drew1 HB.out); have p107 : 0 ≤ (4 : Int) := (by omega); have q107 : 4 < (l0.length : Int) := of_decide_eq_true (by assumption); obtain ⟨ad107, g8, b8⟩ := yaa HR0.out 4 p107 q107; have e2 := b8
 (try rw [show ((4 : Int)).toNat = 4 from rfl] at e2)
 (try rw [show 4 * 1 = 4 from rfl] at e2)
 (try simp only [Nat.reduceMul, Nat.reduceEqDiff, Go.Addr.add, ↓reduceIte] at e2)
 obtain rfl : ad101 = ad107 := (by injection g8)
 (try simp only [show (4 : Int).toNat = 4 from rfl, Nat.reduceMul, Nat.reduceEqDiff, Go.Addr.add, ↓reduceIte] at b8)
 have qi107 : (4 < l0.length) = True := eq_true (by omega)
 (try rw [show ((4 : Int)).toNat = 4 from rfl] at b8)
 replace b8 := (upc_ HB.out b8 :); replace p107 := eq_true p107; replace q107 := eq_true q107; have p108 : 0 ≤ (5 : Int) := (by omega); have q108 : 5 < (l0.length : Int) := of_decide_eq_true (by assumption); obtain ⟨ad108, g9, b9⟩ := yaa HR0.out 5 p108 q108; have e3 := b9
 (try rw [show ((5 : Int)).toNat = 5 from rfl] at e3)
 (try rw [show 5 * 1 = 5 from rfl] at e3)
 (try simp only [Nat.reduceMul, Nat.reduceEqDiff, Go.Addr.add, ↓reduceIte] at e3)
 obtain rfl : ad101 = ad108 := (by injection g9)
 (try simp only [show (5 : Int).toNat = 5 from rfl, Nat.reduceMul, Nat.reduceEqDiff, Go.Addr.add, ↓reduceIte] at b9)
 have qi108 : (5 < l0.length) = True := eq_true (by omega)
 (try rw [show ((5 : Int)).toNat = 5 from rfl] at b9)
 replace b9 := (upc_ HB.out b9 :); replace p108 := eq_true p108; replace q108 := eq_true q108; have p109 : 0 ≤ (4 : Int) := (by omega); have q109 : 4 < (l0.length : Int) := of_decide_eq_true (by assumption); obtain ⟨ad109, h0, c1⟩ := yaa HR0.out 4 p109 q109; have e4 := c1
 (try rw [show ((4 : Int)).toNat = 4 from rfl] at e4)
 (try rw [show 4 * 1 = 4 from rfl] at e4)
 (try simp only [Nat.reduceMul, Nat.reduceEqDiff, Go.Addr.add, ↓reduceIte] at e4)
 obtain rfl : ad101 = ad109 := (by injection h0)
 (try simp only [show (4 : Int).toNat = 4 from rfl, Nat.reduceMul, Nat.reduceEqDiff, Go.Addr.add, ↓reduceIte] at c1)
 have qi109 : (4 < l0.length) = True := eq_true (by omega)
 (try rw [show ((4 : Int)).toNat = 4 from rfl] at c1)
 replace c1 := (upc_ HB.out c1 :); replace p109 := eq_true p109; replace q109 := eq_true q109; have p110 : 0 ≤ (6 : Int) := (by omega); have q110 : 6 < (l0.length : Int) := of_decide_eq_true (by assumption); obtain ⟨ad110, h1, c2⟩ := yaa HR0.out 6 p110 q110; have e5 := c2
 (try rw [show ((6 : Int)).toNat = 6 from rfl] at e5)
 (try rw [show 6 * 1 = 6 from rfl] at e5)
 (try simp only [Nat.reduceMul, Nat.reduceEqDiff, Go.Addr.add, ↓reduceIte] at e5)
 obtain rfl : ad101 = ad110 := (by injection h1)
 (try simp only [show (6 : Int).toNat = 6 from rfl, Nat.reduceMul, Nat.reduceEqDiff, Go.Addr.add, ↓reduceIte] at c2)
 have qi110 : (6 < l0.length) = True := eq_true (by omega)
 (try rw [show ((6 : Int)).toNat = 6 from rfl] at c2)
 replace c2 := (upc_ HB.out c2 :); replace p110 := eq_true p110; replace q110 := eq_true q110
 refine start_ (n := 17) (S := fun w' => w'.cell? ⟨ad101.block, ad101.off + 4, none⟩ = some (.int .u64 (rd l0 4)) ∧ w'.cell? ⟨ad101.block, ad101.off + 5, none⟩ = some (.int .u64 (rd l0 5)) ∧ w'.cell? ⟨ad101.block, ad101.off + 4, none⟩ = some (.int .u64 (rd l0 4)) ∧ w'.cell? ⟨ad101.block, ad101.off + 6, none⟩ = some (.int .u64 (rd l0 6))) (ds := []) q101_16 (by kernel_rfl) rfl rfl ⟨(upc_ HB.out e2 :), (upc_ HB.out e3 :), (upc_ HB.out e4 :), (upc_ HB.out e5 :)⟩ (fun hHeld => ?_); refine with_tabW spec_l1Step.tab2 spec_l1Step.bits2 (fun HT_ HW_ => ?_)
 generalize w22.drew = w23 at HB b8 b9 c1 c2 hHeld ⊢
 refine pz_ 0 27 q101_17 HT_ (by kernel_rfl) ?_
 refine pz_ 1 28 q101_18 HT_ (by kernel_rfl) ?_
 refine pz_ 3 30 q101_19 HT_ (by kernel_rfl) ?_
 refine pz_ 4 31 q101_20 HT_ (by kernel_rfl) ?_
 refine pz_ 7 34 q101_21 HT_ (by kernel_rfl) ?_
 refine pz_ 8 35 q101_22 HT_ (by kernel_rfl) ?_
 refine pz_ 11 38 q101_23 HT_ (by kernel_rfl) ?_
 refine pz_ 12 39 q101_24 HT_ (by kernel_rfl) ?_
 refine tz_ 2 29 q101_25 HT_ HW_ (by kernel_rfl) hHeld ?_
 refine tz_ 5 32 q101_26 HT_ HW_ (by kernel_rfl) hHeld ?_
 refine pz_ 6 33 q101_27 HT_ (by kernel_rfl) ?_
 refine tz_ 9 36 q101_28 HT_ HW_ (by kernel_rfl) hHeld ?_
 refine pz_ 10 37 q101_29 HT_ (by kernel_rfl) ?_
 refine tz_ 13 40 q101_30 HT_ HW_ (by kernel_rfl) hHeld ?_
 refine pz_ 14 41 q101_31 HT_ (by kernel_rfl) ?_
 refine pz_ 15 42 q101_32 HT_ (by kernel_rfl) ?_
 refine pz_ 16 8 q101_33 HT_ (by kernel_rfl) ?_
 refine done_ (done_of HT_.out (by kernel_rfl)) ?_
 have p111 : 0 ≤ (7 : Int) := (by omega); have q111 : 7 < (l0.length : Int) := of_decide_eq_true (by assumption); obtain ⟨ad111, h2, e6⟩ := yaa HR0.out 7 p111 q111; obtain rfl : ad101 = ad111 := (by injection h2)
 (try simp only [show (7 : Int).toNat = 7 from rfl, Nat.reduceMul, Nat.reduceEqDiff, Go.Addr.add, ↓reduceIte] at e6)
 have qi111 : (7 < l0.length) = True := eq_true (by omega)
 (try rw [show ((7 : Int)).toNat = 7 from rfl] at e6)
 replace e6 := (upc_ HB.out e6 :); replace p111 := eq_true p111; replace q111 := eq_true q111
 try go_wp2_with (first | ((with_reducible refine gc_ 102 rfl ?_); refine gl_ (some 54) rfl Tryz.func102 #[.int .u64 (IntKind.u64.wrap ((IntKind.u64.wrap ((IntKind.u64.wrap ((IntKind.u64.wrap ((rd l0 7) + (Go.bits .xor .u64 (Go.bits .xor .u64 f6 f7) f8))) + (Go.bits .xor .u64 (Go.bits .and .u64 (rd l0 4) (rd l0 5)) (Go.bits .and .u64 (Go.bits .xor .u64 4294967295 (rd l0 4)) (rd l0 6))))) + a1)) + a2))] ?_; (with_reducible refine (spec_l1Word.calls (IntKind.u64.wrap ((IntKind.u64.wrap ((IntKind.u64.wrap ((IntKind.u64.wrap ((rd l0 7) + (Go.bits .xor .u64 (Go.bits .xor .u64 f6 f7) f8))) + (Go.bits .xor .u64 (Go.bits .and .u64 (rd l0 4) (rd l0 5)) (Go.bits .and .u64 (Go.bits .xor .u64 4294967295 (rd l0 4)) (rd l0 6))))) + a1)) + a2)) f3 _ A11.out).mono ?_); rintro e w' ⟨rfl, ⟨nd, rfl⟩⟩; refine ⟨_, rfl, ?_⟩))
 (try (rw [drewN_self w23]; generalize hq_ : World.drewN w23 _ = w23; have n0_ : Aside0 (Below w.heap.size w w23) := ⟨by rw [← hq_]; exact (upH HB.out)⟩; clear HB hq_; have HB := n0_; clear n0_))
 replace HB := Aside0.mk (below_drew1 HB.out); have p113 : 0 ≤ (0 : Int) := (by omega); have q113 : 0 < (l0.length : Int) := of_decide_eq_true (by assumption); obtain ⟨ad113, h3, c3⟩ := yaa HR0.out 0 p113 q113; have a5 := c3
 (try rw [show ((0 : Int)).toNat = 0 from rfl] at a5)
 (try rw [show 0 * 1 = 0 from rfl] at a5)
 (try rw [Addr.add_zero'] at a5)
 obtain rfl : ad101 = ad113 := (by injection h3); have qi113 : (0 < l0.length) = True := eq_true (by omega)
 (try rw [show ((0 : Int)).toNat = 0 from rfl] at c3)
 (try rw [Addr.add_zero'] at c3)
 replace c3 := (upc_ HB.out c3 :); replace p113 := eq_true p113; replace q113 := eq_true q113; have p115 : 0 ≤ (0 : Int) := (by omega); have q115 : 0 < (l0.length : Int) := of_decide_eq_true (by assumption); obtain ⟨ad115, h4, c5⟩ := yaa HR0.out 0 p115 q115; have a6 := c5
 (try rw [show ((0 : Int)).toNat = 0 from rfl] at a6)
 (try rw [show 0 * 1 = 0 from rfl] at a6)
 (try rw [Addr.add_zero'] at a6)
 obtain rfl : ad101 = ad115 := (by injection h4); have qi115 : (0 < l0.length) = True := eq_true (by omega)
 (try rw [show ((0 : Int)).toNat = 0 from rfl] at c5)
 (try rw [Addr.add_zero'] at c5)
 replace c5 := (upc_ HB.out c5 :); replace p115 := eq_true p115; replace q115 := eq_true q115; have p117 : 0 ≤ (0 : Int) := (by omega); have q117 : 0 < (l0.length : Int) := of_decide_eq_true (by assumption); obtain ⟨ad117, h5, c6⟩ := yaa HR0.out 0 p117 q117; have a7 := c6
 (try rw [show ((0 : Int)).toNat = 0 from rfl] at a7)
 (try rw [show 0 * 1 = 0 from rfl] at a7)
 (try rw [Addr.add_zero'] at a7)
 obtain rfl : ad101 = ad117 := (by injection h5); have qi117 : (0 < l0.length) = True := eq_true (by omega)
 (try rw [show ((0 : Int)).toNat = 0 from rfl] at c6)
 (try rw [Addr.add_zero'] at c6)
 replace c6 := (upc_ HB.out c6 :); replace p117 := eq_true p117; replace q117 := eq_true q117
 refine start_ (n := 15) (S := fun w' => w'.cell? ad101 = some (.int .u64 (rd l0 0)) ∧ w'.cell? ad101 = some (.int .u64 (rd l0 0)) ∧ w'.cell? ad101 = some (.int .u64 (rd l0 0))) (ds := []) q101_0 (by kernel_rfl) rfl rfl ⟨(upc_ HB.out a5 :), (upc_ HB.out a6 :), (upc_ HB.out a7 :)⟩ (fun hHeld => ?_); refine with_tabW spec_l1Step.tab4 spec_l1Step.bits4 (fun HT_ HW_ => ?_)
 generalize w23.drew = w24 at HB c3 c5 c6 hHeld ⊢
 refine pz_ 0 55 q101_1 HT_ (by kernel_rfl) ?_
 refine pz_ 1 56 q101_2 HT_ (by kernel_rfl) ?_
 refine pz_ 4 59 q101_3 HT_ (by kernel_rfl) ?_
 refine pz_ 5 60 q101_4 HT_ (by kernel_rfl) ?_
 refine pz_ 9 64 q101_5 HT_ (by kernel_rfl) ?_
 refine pz_ 10 65 q101_6 HT_ (by kernel_rfl) ?_
 refine tz_ 2 57 q101_7 HT_ HW_ (by kernel_rfl) hHeld ?_
 refine tz_ 6 61 q101_8 HT_ HW_ (by kernel_rfl) hHeld ?_
 refine tz_ 11 66 q101_9 HT_ HW_ (by kernel_rfl) hHeld ?_
 refine one_ (i := 3) (N := some 58) q101_10 rfl rfl (one_of HT_.out (by kernel_rfl)) (by decide) (fun K hK => ?_)
 refine goes_ Tryz.func116 (by kernel_rfl) rfl #[.int .u64 (rd l0 0), .int .u64 2] (by rfl) rfl rfl (by (try simp only [List.map_toArray, List.map_cons, List.map_nil]); first | done | rfl | (simp only [List.length_drop, List.length_take]; rfl)) ?_
 with_reducible refine (spec_l1Turn.calls (rd l0 0) 2 f9 _ A13.out).mono ?_
 rintro e w' ⟨rfl, ⟨nd, rfl⟩⟩; refine ⟨_, rfl, ?_⟩
 refine hK.out _ _ ⟨(upc_ HB.out a5 :), (upc_ HB.out a6 :), (upc_ HB.out a7 :)⟩ (fun hHeld => ?_)
 clear hK K
 refine norm_ (a' := ?_) ?_ ?_
 rotate_left
 ·
  show Act.put _ (some 58) _ = _
  simp only [Act.put, List.setIfInBounds_toArray, List.set_cons_zero, List.set_cons_succ, i64_w, i32_w]
  rfl
 refine one_ (i := 7) (N := some 62) q101_11 rfl rfl (one_of HT_.out (by kernel_rfl)) (by decide) (fun K hK => ?_)
 refine goes_ Tryz.func116 (by kernel_rfl) rfl #[.int .u64 (rd l0 0), .int .u64 13] (by rfl) rfl rfl (by (try simp only [List.map_toArray, List.map_cons, List.map_nil]); first | done | rfl | (simp only [List.length_drop, List.length_take]; rfl)) ?_
 with_reducible refine (spec_l1Turn.calls (rd l0 0) 13 g0 _ A14.out).mono ?_
 rintro e w' ⟨rfl, ⟨nd, rfl⟩⟩; refine ⟨_, rfl, ?_⟩
 refine hK.out _ _ ⟨(upc_ HB.out a5 :), (upc_ HB.out a6 :), (upc_ HB.out a7 :)⟩ (fun hHeld => ?_)
 clear hK K
 refine norm_ (a' := ?_) ?_ ?_
 rotate_left
 ·
  show Act.put _ (some 62) _ = _
  simp only [Act.put, List.setIfInBounds_toArray, List.set_cons_zero, List.set_cons_succ, i64_w, i32_w]
  rfl
 refine pz_ 8 63 q101_12 HT_ (by kernel_rfl) ?_
 refine one_ (i := 12) (N := some 67) q101_13 rfl rfl (one_of HT_.out (by kernel_rfl)) (by decide) (fun K hK => ?_)
 refine goes_ Tryz.func116 (by kernel_rfl) rfl #[.int .u64 (rd l0 0), .int .u64 22] (by rfl) rfl rfl (by (try simp only [List.map_toArray, List.map_cons, List.map_nil]); first | done | rfl | (simp only [List.length_drop, List.length_take]; rfl)) ?_
 with_reducible refine (spec_l1Turn.calls (rd l0 0) 22 g1 _ A15.out).mono ?_
 rintro e w' ⟨rfl, ⟨nd, rfl⟩⟩; refine ⟨_, rfl, ?_⟩
 refine hK.out _ _ ⟨(upc_ HB.out a5 :), (upc_ HB.out a6 :), (upc_ HB.out a7 :)⟩ (fun hHeld => ?_)
 clear hK K
 refine norm_ (a' := ?_) ?_ ?_
 rotate_left
 ·
  show Act.put _ (some 67) _ = _
  simp only [Act.put, List.setIfInBounds_toArray, List.set_cons_zero, List.set_cons_succ, i64_w, i32_w]
  rfl
 refine pz_ 13 68 q101_14 HT_ (by kernel_rfl) ?_
 refine pz_ 14 10 q101_15 HT_ (by kernel_rfl) ?_
 refine done_ (done_of HT_.out (by kernel_rfl)) ?_
 try go_wp2
 (try (rw [drewN_self w24]; generalize hq_ : World.drewN w24 _ = w24; have n0_ : Aside0 (Below w.heap.size w w24) := ⟨by rw [← hq_]; exact (upH HB.out)⟩; clear HB hq_; have HB := n0_; clear n0_))
 replace HB := Aside0.mk (below_drew1 HB.out); have p119 : 0 ≤ (0 : Int) := (by omega); have q119 : 0 < (l0.length : Int) := of_decide_eq_true (by assumption); obtain ⟨ad119, h6, c7⟩ := yaa HR0.out 0 p119 q119; have e7 := c7
 (try rw [show ((0 : Int)).toNat = 0 from rfl] at e7)
 (try rw [show 0 * 1 = 0 from rfl] at e7)
 (try rw [Addr.add_zero'] at e7)
 obtain rfl : ad101 = ad119 := (by injection h6); have qi119 : (0 < l0.length) = True := eq_true (by omega)
 (try rw [show ((0 : Int)).toNat = 0 from rfl] at c7)
 (try rw [Addr.add_zero'] at c7)
 replace c7 := (upc_ HB.out c7 :); replace p119 := eq_true p119; replace q119 := eq_true q119; have p120 : 0 ≤ (1 : Int) := (by omega); have q120 : 1 < (l0.length : Int) := of_decide_eq_true (by assumption); obtain ⟨ad120, h7, d0⟩ := yaa HR0.out 1 p120 q120; have e8 := d0
 (try rw [show ((1 : Int)).toNat = 1 from rfl] at e8)
 (try rw [show 1 * 1 = 1 from rfl] at e8)
 (try simp only [Nat.reduceMul, Nat.reduceEqDiff, Go.Addr.add, ↓reduceIte] at e8)
 obtain rfl : ad101 = ad120 := (by injection h7)
 (try simp only [show (1 : Int).toNat = 1 from rfl, Nat.reduceMul, Nat.reduceEqDiff, Go.Addr.add, ↓reduceIte] at d0)
 have qi120 : (1 < l0.length) = True := eq_true (by omega)
 (try rw [show ((1 : Int)).toNat = 1 from rfl] at d0)
 replace d0 := (upc_ HB.out d0 :); replace p120 := eq_true p120; replace q120 := eq_true q120; have p121 : 0 ≤ (0 : Int) := (by omega); have q121 : 0 < (l0.length : Int) := of_decide_eq_true (by assumption); obtain ⟨ad121, h8, d1⟩ := yaa HR0.out 0 p121 q121; have e9 := d1
 (try rw [show ((0 : Int)).toNat = 0 from rfl] at e9)
 (try rw [show 0 * 1 = 0 from rfl] at e9)
 (try rw [Addr.add_zero'] at e9)
 obtain rfl : ad101 = ad121 := (by injection h8); have qi121 : (0 < l0.length) = True := eq_true (by omega)
 (try rw [show ((0 : Int)).toNat = 0 from rfl] at d1)
 (try rw [Addr.add_zero'] at d1)
 replace d1 := (upc_ HB.out d1 :); replace p121 := eq_true p121; replace q121 := eq_true q121; have p122 : 0 ≤ (2 : Int) := (by omega); have q122 : 2 < (l0.length : Int) := of_decide_eq_true (by assumption); obtain ⟨ad122, h9, d2⟩ := yaa HR0.out 2 p122 q122; have f0 := d2
 (try rw [show ((2 : Int)).toNat = 2 from rfl] at f0)
 (try rw [show 2 * 1 = 2 from rfl] at f0)
 (try simp only [Nat.reduceMul, Nat.reduceEqDiff, Go.Addr.add, ↓reduceIte] at f0)
 obtain rfl : ad101 = ad122 := (by injection h9)
 (try simp only [show (2 : Int).toNat = 2 from rfl, Nat.reduceMul, Nat.reduceEqDiff, Go.Addr.add, ↓reduceIte] at d2)
 have qi122 : (2 < l0.length) = True := eq_true (by omega)
 (try rw [show ((2 : Int)).toNat = 2 from rfl] at d2)
 replace d2 := (upc_ HB.out d2 :); replace p122 := eq_true p122; replace q122 := eq_true q122; have p123 : 0 ≤ (1 : Int) := (by omega); have q123 : 1 < (l0.length : Int) := of_decide_eq_true (by assumption); obtain ⟨ad123, i0, d3⟩ := yaa HR0.out 1 p123 q123; have f1 := d3
 (try rw [show ((1 : Int)).toNat = 1 from rfl] at f1)
 (try rw [show 1 * 1 = 1 from rfl] at f1)
 (try simp only [Nat.reduceMul, Nat.reduceEqDiff, Go.Addr.add, ↓reduceIte] at f1)
 obtain rfl : ad101 = ad123 := (by injection i0)
 (try simp only [show (1 : Int).toNat = 1 from rfl, Nat.reduceMul, Nat.reduceEqDiff, Go.Addr.add, ↓reduceIte] at d3)
 have qi123 : (1 < l0.length) = True := eq_true (by omega)
 (try rw [show ((1 : Int)).toNat = 1 from rfl] at d3)
 replace d3 := (upc_ HB.out d3 :); replace p123 := eq_true p123; replace q123 := eq_true q123; have p124 : 0 ≤ (2 : Int) := (by omega); have q124 : 2 < (l0.length : Int) := of_decide_eq_true (by assumption); obtain ⟨ad124, i1, d4⟩ := yaa HR0.out 2 p124 q124; have f2 := d4
 (try rw [show ((2 : Int)).toNat = 2 from rfl] at f2)
 (try rw [show 2 * 1 = 2 from rfl] at f2)
 (try simp only [Nat.reduceMul, Nat.reduceEqDiff, Go.Addr.add, ↓reduceIte] at f2)
 obtain rfl : ad101 = ad124 := (by injection i1)
 (try simp only [show (2 : Int).toNat = 2 from rfl, Nat.reduceMul, Nat.reduceEqDiff, Go.Addr.add, ↓reduceIte] at d4)
 have qi124 : (2 < l0.length) = True := eq_true (by omega)
 (try rw [show ((2 : Int)).toNat = 2 from rfl] at d4)
 replace d4 := (upc_ HB.out d4 :); replace p124 := eq_true p124; replace q124 := eq_true q124
 refine start_ (n := 24) (S := fun w' => w'.cell? ad101 = some (.int .u64 (rd l0 0)) ∧ w'.cell? ⟨ad101.block, ad101.off + 1, none⟩ = some (.int .u64 (rd l0 1)) ∧ w'.cell? ad101 = some (.int .u64 (rd l0 0)) ∧ w'.cell? ⟨ad101.block, ad101.off + 2, none⟩ = some (.int .u64 (rd l0 2)) ∧ w'.cell? ⟨ad101.block, ad101.off + 1, none⟩ = some (.int .u64 (rd l0 1)) ∧ w'.cell? ⟨ad101.block, ad101.off + 2, none⟩ = some (.int .u64 (rd l0 2))) (ds := []) q101_34 (by kernel_rfl) rfl rfl ⟨(upc_ HB.out e7 :), (upc_ HB.out e8 :), (upc_ HB.out e9 :), (upc_ HB.out f0 :), (upc_ HB.out f1 :), (upc_ HB.out f2 :)⟩ (fun hHeld => ?_); refine with_tabW spec_l1Step.tab5 spec_l1Step.bits5 (fun HT_ HW_ => ?_)
 generalize w24.drew = w25 at HB c7 d0 d1 d2 d3 d4 hHeld ⊢
 refine pz_ 0 69 q101_35 HT_ (by kernel_rfl) ?_
 refine pz_ 1 70 q101_36 HT_ (by kernel_rfl) ?_
 refine pz_ 3 72 q101_37 HT_ (by kernel_rfl) ?_
 refine pz_ 4 73 q101_38 HT_ (by kernel_rfl) ?_
 refine pz_ 7 76 q101_39 HT_ (by kernel_rfl) ?_
 refine pz_ 8 77 q101_40 HT_ (by kernel_rfl) ?_
 refine pz_ 10 79 q101_41 HT_ (by kernel_rfl) ?_
 refine pz_ 11 80 q101_42 HT_ (by kernel_rfl) ?_
 refine pz_ 15 84 q101_43 HT_ (by kernel_rfl) ?_
 refine pz_ 16 85 q101_44 HT_ (by kernel_rfl) ?_
 refine pz_ 18 87 q101_45 HT_ (by kernel_rfl) ?_
 refine pz_ 19 88 q101_46 HT_ (by kernel_rfl) ?_
 refine tz_ 2 71 q101_47 HT_ HW_ (by kernel_rfl) hHeld ?_
 refine tz_ 5 74 q101_48 HT_ HW_ (by kernel_rfl) hHeld ?_
 refine pz_ 6 75 q101_49 HT_ (by kernel_rfl) ?_
 refine tz_ 9 78 q101_50 HT_ HW_ (by kernel_rfl) hHeld ?_
 refine tz_ 12 81 q101_51 HT_ HW_ (by kernel_rfl) hHeld ?_
 refine pz_ 13 82 q101_52 HT_ (by kernel_rfl) ?_
 refine pz_ 14 83 q101_53 HT_ (by kernel_rfl) ?_
 refine tz_ 17 86 q101_54 HT_ HW_ (by kernel_rfl) hHeld ?_
 refine tz_ 20 89 q101_55 HT_ HW_ (by kernel_rfl) hHeld ?_
 refine pz_ 21 90 q101_56 HT_ (by kernel_rfl) ?_
 refine pz_ 22 91 q101_57 HT_ (by kernel_rfl) ?_
 refine pz_ 23 11 q101_58 HT_ (by kernel_rfl) ?_
 refine done_ (done_of HT_.out (by kernel_rfl)) ?_
 try go_wp2_with (first | ((with_reducible refine gc_ 102 rfl ?_); refine gl_ (some 95) rfl Tryz.func102 #[.int .u64 (IntKind.u64.wrap ((Go.bits .xor .u64 (Go.bits .xor .u64 f9 g0) g1) + (Go.bits .xor .u64 (Go.bits .xor .u64 (Go.bits .and .u64 (rd l0 0) (rd l0 1)) (Go.bits .and .u64 (rd l0 0) (rd l0 2))) (Go.bits .and .u64 (rd l0 1) (rd l0 2)))))] ?_; (with_reducible refine (spec_l1Word.calls (IntKind.u64.wrap ((Go.bits .xor .u64 (Go.bits .xor .u64 f9 g0) g1) + (Go.bits .xor .u64 (Go.bits .xor .u64 (Go.bits .and .u64 (rd l0 0) (rd l0 1)) (Go.bits .and .u64 (rd l0 0) (rd l0 2))) (Go.bits .and .u64 (rd l0 1) (rd l0 2))))) g2 _ A18.out).mono ?_); rintro e w' ⟨rfl, ⟨nd, rfl⟩⟩; refine ⟨_, rfl, ?_⟩))
 (try (rw [drewN_self w25]; generalize hq_ : World.drewN w25 _ = w25; have n0_ : Aside0 (Below w.heap.size w w25) := ⟨by rw [← hq_]; exact (upH HB.out)⟩; clear HB hq_; have HB := n0_; clear n0_))
 replace HB := Aside0.mk (below_drew1 HB.out); have p127 : 0 ≤ (0 : Int) := (by omega); have q127 : 0 < (l0.length : Int) := of_decide_eq_true (by assumption); obtain ⟨ad127, i2, d5⟩ := yaa HR0.out 0 p127 q127; have a8 := d5
 (try rw [show ((0 : Int)).toNat = 0 from rfl] at a8)
 (try rw [show 0 * 1 = 0 from rfl] at a8)
 (try rw [Addr.add_zero'] at a8)
 obtain rfl : ad101 = ad127 := (by injection i2); have qi127 : (0 < l0.length) = True := eq_true (by omega)
 (try rw [show ((0 : Int)).toNat = 0 from rfl] at d5)
 (try rw [Addr.add_zero'] at d5)
 replace d5 := (upc_ HB.out d5 :); replace p127 := eq_true p127; replace q127 := eq_true q127; have p128 : 0 ≤ (1 : Int) := (by omega); have q128 : 1 < (l0.length : Int) := of_decide_eq_true (by assumption); obtain ⟨ad128, i3, d6⟩ := yaa HR0.out 1 p128 q128; have a9 := d6
 (try rw [show ((1 : Int)).toNat = 1 from rfl] at a9)
 (try rw [show 1 * 1 = 1 from rfl] at a9)
 (try simp only [Nat.reduceMul, Nat.reduceEqDiff, Go.Addr.add, ↓reduceIte] at a9)
 obtain rfl : ad101 = ad128 := (by injection i3)
 (try simp only [show (1 : Int).toNat = 1 from rfl, Nat.reduceMul, Nat.reduceEqDiff, Go.Addr.add, ↓reduceIte] at d6)
 have qi128 : (1 < l0.length) = True := eq_true (by omega)
 (try rw [show ((1 : Int)).toNat = 1 from rfl] at d6)
 replace d6 := (upc_ HB.out d6 :); replace p128 := eq_true p128; replace q128 := eq_true q128; have p129 : 0 ≤ (2 : Int) := (by omega); have q129 : 2 < (l0.length : Int) := of_decide_eq_true (by assumption); obtain ⟨ad129, i4, d7⟩ := yaa HR0.out 2 p129 q129; have b0 := d7
 (try rw [show ((2 : Int)).toNat = 2 from rfl] at b0)
 (try rw [show 2 * 1 = 2 from rfl] at b0)
 (try simp only [Nat.reduceMul, Nat.reduceEqDiff, Go.Addr.add, ↓reduceIte] at b0)
 obtain rfl : ad101 = ad129 := (by injection i4)
 (try simp only [show (2 : Int).toNat = 2 from rfl, Nat.reduceMul, Nat.reduceEqDiff, Go.Addr.add, ↓reduceIte] at d7)
 have qi129 : (2 < l0.length) = True := eq_true (by omega)
 (try rw [show ((2 : Int)).toNat = 2 from rfl] at d7)
 replace d7 := (upc_ HB.out d7 :); replace p129 := eq_true p129; replace q129 := eq_true q129; have p130 : 0 ≤ (3 : Int) := (by omega); have q130 : 3 < (l0.length : Int) := of_decide_eq_true (by assumption); obtain ⟨ad130, i5, d8⟩ := yaa HR0.out 3 p130 q130; have b1 := d8
 (try rw [show ((3 : Int)).toNat = 3 from rfl] at b1)
 (try rw [show 3 * 1 = 3 from rfl] at b1)
 (try simp only [Nat.reduceMul, Nat.reduceEqDiff, Go.Addr.add, ↓reduceIte] at b1)
 obtain rfl : ad101 = ad130 := (by injection i5)
 (try simp only [show (3 : Int).toNat = 3 from rfl, Nat.reduceMul, Nat.reduceEqDiff, Go.Addr.add, ↓reduceIte] at d8)
 have qi130 : (3 < l0.length) = True := eq_true (by omega)
 (try rw [show ((3 : Int)).toNat = 3 from rfl] at d8)
 replace d8 := (upc_ HB.out d8 :); replace p130 := eq_true p130; replace q130 := eq_true q130; have p132 : 0 ≤ (4 : Int) := (by omega); have q132 : 4 < (l0.length : Int) := of_decide_eq_true (by assumption); obtain ⟨ad132, i6, d9⟩ := yaa HR0.out 4 p132 q132; have b2 := d9
 (try rw [show ((4 : Int)).toNat = 4 from rfl] at b2)
 (try rw [show 4 * 1 = 4 from rfl] at b2)
 (try simp only [Nat.reduceMul, Nat.reduceEqDiff, Go.Addr.add, ↓reduceIte] at b2)
 obtain rfl : ad101 = ad132 := (by injection i6)
 (try simp only [show (4 : Int).toNat = 4 from rfl, Nat.reduceMul, Nat.reduceEqDiff, Go.Addr.add, ↓reduceIte] at d9)
 have qi132 : (4 < l0.length) = True := eq_true (by omega)
 (try rw [show ((4 : Int)).toNat = 4 from rfl] at d9)
 replace d9 := (upc_ HB.out d9 :); replace p132 := eq_true p132; replace q132 := eq_true q132; have p133 : 0 ≤ (5 : Int) := (by omega); have q133 : 5 < (l0.length : Int) := of_decide_eq_true (by assumption); obtain ⟨ad133, i7, e0⟩ := yaa HR0.out 5 p133 q133; have b3 := e0
 (try rw [show ((5 : Int)).toNat = 5 from rfl] at b3)
 (try rw [show 5 * 1 = 5 from rfl] at b3)
 (try simp only [Nat.reduceMul, Nat.reduceEqDiff, Go.Addr.add, ↓reduceIte] at b3)
 obtain rfl : ad101 = ad133 := (by injection i7)
 (try simp only [show (5 : Int).toNat = 5 from rfl, Nat.reduceMul, Nat.reduceEqDiff, Go.Addr.add, ↓reduceIte] at e0)
 have qi133 : (5 < l0.length) = True := eq_true (by omega)
 (try rw [show ((5 : Int)).toNat = 5 from rfl] at e0)
 replace e0 := (upc_ HB.out e0 :); replace p133 := eq_true p133; replace q133 := eq_true q133; have p134 : 0 ≤ (6 : Int) := (by omega); have q134 : 6 < (l0.length : Int) := of_decide_eq_true (by assumption); obtain ⟨ad134, i8, e1⟩ := yaa HR0.out 6 p134 q134; have b4 := e1
 (try rw [show ((6 : Int)).toNat = 6 from rfl] at b4)
 (try rw [show 6 * 1 = 6 from rfl] at b4)
 (try simp only [Nat.reduceMul, Nat.reduceEqDiff, Go.Addr.add, ↓reduceIte] at b4)
 obtain rfl : ad101 = ad134 := (by injection i8)
 (try simp only [show (6 : Int).toNat = 6 from rfl, Nat.reduceMul, Nat.reduceEqDiff, Go.Addr.add, ↓reduceIte] at e1)
 have qi134 : (6 < l0.length) = True := eq_true (by omega)
 (try rw [show ((6 : Int)).toNat = 6 from rfl] at e1)
 replace e1 := (upc_ HB.out e1 :); replace p134 := eq_true p134; replace q134 := eq_true q134
 refine start_ (n := 30) (S := fun w' => w'.cell? ad101 = some (.int .u64 (rd l0 0)) ∧ w'.cell? ⟨ad101.block, ad101.off + 1, none⟩ = some (.int .u64 (rd l0 1)) ∧ w'.cell? ⟨ad101.block, ad101.off + 2, none⟩ = some (.int .u64 (rd l0 2)) ∧ w'.cell? ⟨ad101.block, ad101.off + 3, none⟩ = some (.int .u64 (rd l0 3)) ∧ w'.cell? ⟨ad101.block, ad101.off + 4, none⟩ = some (.int .u64 (rd l0 4)) ∧ w'.cell? ⟨ad101.block, ad101.off + 5, none⟩ = some (.int .u64 (rd l0 5)) ∧ w'.cell? ⟨ad101.block, ad101.off + 6, none⟩ = some (.int .u64 (rd l0 6))) (ds := []) q101_59 (by kernel_rfl) rfl rfl ⟨(upc_ HB.out a8 :), (upc_ HB.out a9 :), (upc_ HB.out b0 :), (upc_ HB.out b1 :), (upc_ HB.out b2 :), (upc_ HB.out b3 :), (upc_ HB.out b4 :)⟩ (fun hHeld => ?_); refine with_tabW spec_l1Step.tab7 spec_l1Step.bits7 (fun HT_ HW_ => ?_)
 generalize w25.drew = w26 at HB d5 d6 d7 d8 d9 e0 e1 hHeld ⊢
 refine pz_ 0 96 q101_60 HT_ (by kernel_rfl) ?_
 refine pz_ 1 97 q101_61 HT_ (by kernel_rfl) ?_
 refine pz_ 2 98 q101_62 HT_ (by kernel_rfl) ?_
 refine pz_ 4 100 q101_63 HT_ (by kernel_rfl) ?_
 refine pz_ 5 101 q101_64 HT_ (by kernel_rfl) ?_
 refine pz_ 7 103 q101_65 HT_ (by kernel_rfl) ?_
 refine pz_ 8 104 q101_66 HT_ (by kernel_rfl) ?_
 refine pz_ 10 106 q101_67 HT_ (by kernel_rfl) ?_
 refine pz_ 11 107 q101_68 HT_ (by kernel_rfl) ?_
 refine pz_ 13 109 q101_69 HT_ (by kernel_rfl) ?_
 refine pz_ 14 110 q101_70 HT_ (by kernel_rfl) ?_
 refine pz_ 16 112 q101_71 HT_ (by kernel_rfl) ?_
 refine pz_ 19 115 q101_72 HT_ (by kernel_rfl) ?_
 refine pz_ 20 116 q101_73 HT_ (by kernel_rfl) ?_
 refine pz_ 22 118 q101_74 HT_ (by kernel_rfl) ?_
 refine pz_ 23 119 q101_75 HT_ (by kernel_rfl) ?_
 refine pz_ 25 121 q101_76 HT_ (by kernel_rfl) ?_
 refine pz_ 26 122 q101_77 HT_ (by kernel_rfl) ?_
 refine tz_ 6 102 q101_78 HT_ HW_ (by kernel_rfl) hHeld ?_
 refine tz_ 9 105 q101_79 HT_ HW_ (by kernel_rfl) hHeld ?_
 refine tz_ 12 108 q101_80 HT_ HW_ (by kernel_rfl) hHeld ?_
 refine tz_ 15 111 q101_81 HT_ HW_ (by kernel_rfl) hHeld ?_
 refine pz_ 17 113 q101_82 HT_ (by kernel_rfl) ?_
 refine tz_ 21 117 q101_83 HT_ HW_ (by kernel_rfl) hHeld ?_
 refine tz_ 24 120 q101_84 HT_ HW_ (by kernel_rfl) hHeld ?_
 refine tz_ 27 123 q101_85 HT_ HW_ (by kernel_rfl) hHeld ?_
 refine one_ (i := 3) (N := some 99) q101_86 rfl rfl (one_of HT_.out (by kernel_rfl)) (by decide) (fun K hK => ?_)
 refine goes_ Tryz.func102 (by kernel_rfl) rfl #[.int .u64 (IntKind.u64.wrap (f3 + g2))] (by rfl) rfl rfl (by (try simp only [List.map_toArray, List.map_cons, List.map_nil]); first | done | rfl | (simp only [List.length_drop, List.length_take]; rfl)) ?_
 with_reducible refine (spec_l1Word.calls (IntKind.u64.wrap (f3 + g2)) f4 _ A19.out).mono ?_
 rintro e w' ⟨rfl, ⟨nd, rfl⟩⟩; refine ⟨_, rfl, ?_⟩
 refine hK.out _ _ ⟨(upc_ HB.out a8 :), (upc_ HB.out a9 :), (upc_ HB.out b0 :), (upc_ HB.out b1 :), (upc_ HB.out b2 :), (upc_ HB.out b3 :), (upc_ HB.out b4 :)⟩ (fun hHeld => ?_)
 clear hK K
 refine norm_ (a' := ?_) ?_ ?_
 rotate_left
 ·
  show Act.put _ (some 99) _ = _
  simp only [Act.put, List.setIfInBounds_toArray, List.set_cons_zero, List.set_cons_succ, i64_w, i32_w]
  rfl
 refine one_ (i := 18) (N := some 114) q101_87 rfl rfl (one_of HT_.out (by kernel_rfl)) (by decide) (fun K hK => ?_)
 refine goes_ Tryz.func102 (by kernel_rfl) rfl #[.int .u64 (IntKind.u64.wrap ((rd l0 3) + f3))] (by rfl) rfl rfl (by (try simp only [List.map_toArray, List.map_cons, List.map_nil]); first | done | rfl | (simp only [List.length_drop, List.length_take]; rfl)) ?_
 with_reducible refine (spec_l1Word.calls (IntKind.u64.wrap ((rd l0 3) + f3)) f5 _ A21.out).mono ?_
 rintro e w' ⟨rfl, ⟨nd, rfl⟩⟩; refine ⟨_, rfl, ?_⟩
 refine hK.out _ _ ⟨(upc_ HB.out a8 :), (upc_ HB.out a9 :), (upc_ HB.out b0 :), (upc_ HB.out b1 :), (upc_ HB.out b2 :), (upc_ HB.out b3 :), (upc_ HB.out b4 :)⟩ (fun hHeld => ?_)
 clear hK K
 refine norm_ (a' := ?_) ?_ ?_
 rotate_left
 ·
  show Act.put _ (some 114) _ = _
  simp only [Act.put, List.setIfInBounds_toArray, List.set_cons_zero, List.set_cons_succ, i64_w, i32_w]
  rfl
 refine one_ (i := 28) (N := some 124) q101_88 rfl rfl (one_of HT_.out (by kernel_rfl)) (by decide) (fun K hK => ?_)
 refine Kd.R_lit_step (Kd.int .u64) _ 149 ?hg (N := 124) ?hd (xs := ([f4, rd l0 0, rd l0 1, rd l0 2, f5, rd l0 4, rd l0 5, rd l0 6] : List Int)) (inner := [.int .u64 f4, .int .u64 (rd l0 0), .int .u64 (rd l0 1), .int .u64 (rd l0 2), .int .u64 f5, .int .u64 (rd l0 4), .int .u64 (rd l0 5), .int .u64 (rd l0 6)]) (ok := fun _ => True) (okp := fun _ => True) ?hr ?hp (fun _ hk => hk) trivial (Below.refl _ _) (Nat.le_refl _) (by simp) ?_; (case hd => rfl); (case hg => rfl); (case hr => first | (go_simp; done) | (go_simp; rfl)); (case hp => exact (Reps.one (show Kd.M (Kd.int .u64) _ _ _ f4 [.int .u64 f4] from rfl) (Reps.one (show Kd.M (Kd.int .u64) _ _ _ (rd l0 0) [.int .u64 (rd l0 0)] from rfl) (Reps.one (show Kd.M (Kd.int .u64) _ _ _ (rd l0 1) [.int .u64 (rd l0 1)] from rfl) (Reps.one (show Kd.M (Kd.int .u64) _ _ _ (rd l0 2) [.int .u64 (rd l0 2)] from rfl) (Reps.one (show Kd.M (Kd.int .u64) _ _ _ f5 [.int .u64 f5] from rfl) (Reps.one (show Kd.M (Kd.int .u64) _ _ _ (rd l0 4) [.int .u64 (rd l0 4)] from rfl) (Reps.one (show Kd.M (Kd.int .u64) _ _ _ (rd l0 5) [.int .u64 (rd l0 5)] from rfl) (Reps.one (show Kd.M (Kd.int .u64) _ _ _ (rd l0 6) [.int .u64 (rd l0 6)] from rfl) (Reps.none _ _))))))))))
 intro k5 w27 g3 hb hg_ hnew_; clear hg_ hnew_
 (first | rw [← Ny135.out] at g3 | (simp only [Int.reduceToNat] at g3; rw [← Ny135.out] at g3))
 have g4 := Aside0.mk (Kd.R_lower g3 (below_size (upH HB.out))); replace HB := Aside0.mk (below_step (upH HB.out) hb); clear hb g3
 refine hK.out _ _ ⟨(upc_ HB.out a8 :), (upc_ HB.out a9 :), (upc_ HB.out b0 :), (upc_ HB.out b1 :), (upc_ HB.out b2 :), (upc_ HB.out b3 :), (upc_ HB.out b4 :)⟩ (fun hHeld => ?_)
 clear hK K
 refine norm_ (a' := ?_) ?_ ?_
 rotate_left
 ·
  show Act.put _ (some 124) _ = _
  simp only [Act.put, List.setIfInBounds_toArray, List.set_cons_zero, List.set_cons_succ, i64_w, i32_w]
  rfl
 refine pz_ 29 6 q101_89 HT_ (by kernel_rfl) ?_
 refine done_ (done_of HT_.out (by kernel_rfl)) ?_
 try go_wp2
 go_ret
 exact ⟨_, by first | rfl | (simp [*, errW_none, errW_some] <;> rfl), by first | exact g4.out | exact upR g4.out, upH HB.out⟩
end
section
open Go.Proofs.YtmplnpjdbfedbaaGreatDoorW.PrintWords.Aside0 renaming mk → yaa
open Go.Proofs.YtmplnpjdbfedbaaGreatDoorW.PrintWords.Kd renaming R_drew → yab, R_alloc → yac, R_drewN → yad, R_mono → yae, R_reads' → yaf, int → yag, R_elder' → yai
open Go.Proofs.YtmplnpjdbfedbaaGreatDoorW.PrintWords renaming Aside0 → yah
abbrev q83_0 : Array Bool := Array.replicate 11 false
abbrev q83_1 : Array Bool := #[true, false, false, false, false, false, false, false, false, false, false]
abbrev q83_2 : Array Bool := #[true, true, false, false, false, false, false, false, false, false, false]
abbrev q83_3 : Array Bool := #[true, true, true, false, false, false, false, false, false, false, false]
abbrev q83_4 : Array Bool := #[true, true, true, true, false, false, false, false, false, false, false]
abbrev q83_5 : Array Bool := #[true, true, true, true, false, true, false, false, false, false, false]
abbrev q83_6 : Array Bool := #[true, true, true, true, false, true, true, false, false, false, false]
abbrev q83_7 : Array Bool := #[true, true, true, true, false, true, true, true, false, false, false]
abbrev q83_8 : Array Bool := #[true, true, true, true, true, true, true, true, false, false, false]
abbrev q83_9 : Array Bool := #[true, true, true, true, true, true, true, true, true, false, false]
abbrev q83_10 : Array Bool := #[true, true, true, true, true, true, true, true, true, true, false]
abbrev q83_11 : Array Bool := #[true, true, true, true, true, true, true, true, true, true, true]
abbrev q83_12 : Array Bool := Array.replicate 14 false
abbrev q83_13 : Array Bool := bl_ 14 1
abbrev q83_14 : Array Bool := bl_ 14 3
abbrev q83_15 : Array Bool := bl_ 14 7
abbrev q83_16 : Array Bool := bl_ 14 15
abbrev q83_17 : Array Bool := bl_ 14 31
abbrev q83_18 : Array Bool := bl_ 14 95
abbrev q83_19 : Array Bool := bl_ 14 223
abbrev q83_20 : Array Bool := bl_ 14 479
abbrev q83_21 : Array Bool := bl_ 14 511
abbrev q83_22 : Array Bool := bl_ 14 1023
abbrev q83_23 : Array Bool := bl_ 14 2047
abbrev q83_24 : Array Bool := bl_ 14 4095
abbrev q83_25 : Array Bool := bl_ 14 8191
abbrev q83_26 : Array Bool := bl_ 14 16383
abbrev q83_27 : Array Bool := Array.replicate 27 false
abbrev q83_28 : Array Bool := bl_ 27 1
abbrev q83_29 : Array Bool := bl_ 27 3
abbrev q83_30 : Array Bool := bl_ 27 7
abbrev q83_31 : Array Bool := bl_ 27 15
abbrev q83_32 : Array Bool := bl_ 27 143
abbrev q83_33 : Array Bool := bl_ 27 399
abbrev q83_34 : Array Bool := bl_ 27 911
abbrev q83_35 : Array Bool := bl_ 27 9103
abbrev q83_36 : Array Bool := bl_ 27 25487
abbrev q83_37 : Array Bool := bl_ 27 58255
abbrev q83_38 : Array Bool := bl_ 27 582543
abbrev q83_39 : Array Bool := bl_ 27 1631119
abbrev q83_40 : Array Bool := bl_ 27 3728271
abbrev q83_41 : Array Bool := bl_ 27 3728287
abbrev q83_42 : Array Bool := bl_ 27 3728319
abbrev q83_43 : Array Bool := bl_ 27 3728383
abbrev q83_44 : Array Bool := bl_ 27 3729407
abbrev q83_45 : Array Bool := bl_ 27 3731455
abbrev q83_46 : Array Bool := bl_ 27 3735551
abbrev q83_47 : Array Bool := bl_ 27 3801087
abbrev q83_48 : Array Bool := bl_ 27 3932159
abbrev q83_49 : Array Bool := bl_ 27 4194303
abbrev q83_50 : Array Bool := bl_ 27 8388607
abbrev q83_51 : Array Bool := bl_ 27 16777215
abbrev q83_52 : Array Bool := bl_ 27 33554431
abbrev q83_53 : Array Bool := bl_ 27 67108863
abbrev q83_54 : Array Bool := bl_ 27 134217727
mutual
def spec_l1Sum.l0 : Nat → List Int → List Int → List Int → Int → Option (List Int)
 | 0, _, _, _, _ => none
 | k + 1, x0, x3, x4, x5 => if x5 < 8 then (if 0 ≤ x5 then (if x5 < (x3.length : Int) then ((spec_l1Root.f k (rd x3 x5) 2).bind fun t108 => (if x4.length < 17592186044416 then (spec_l1Sum.l0 k x0 x3 (x4 ++ [t108]) (wrap64 (x5 + 1))) else (none))) else (none)) else (none)) else ((spec_l1Whole.f k x0).bind fun t112 => (spec_l1Sum.l1 k x3 x4 t112 (([] : List Int)) 0))
def spec_l1Sum.l1 : Nat → List Int → List Int → List Int → List Int → Int → Option (List Int)
 | 0, _, _, _, _, _ => none
 | k + 1, x3, x4, x6, x7, x8 => if x8 < 64 then (if 0 ≤ x8 then (if x8 < (x3.length : Int) then ((spec_l1Root.f k (rd x3 x8) 3).bind fun t119 => (if x7.length < 17592186044416 then (spec_l1Sum.l1 k x3 x4 x6 (x7 ++ [t119]) (wrap64 (x8 + 1))) else (none))) else (none)) else (none)) else (spec_l1Sum.l2 k x4 x6 x7 0)
def spec_l1Sum.l2 : Nat → List Int → List Int → List Int → Int → Option (List Int)
 | 0, _, _, _, _ => none
 | k + 1, x4, x6, x7, x9 => if x9 < (x6.length : Int) then (if 0 ≤ x9 then (if x9 ≤ (wrap64 (x9 + 64)) then (if (wrap64 (x9 + 64)) ≤ (x6.length : Int) then ((spec_l1Words.f k ((x6.take ((wrap64 (x9 + 64)) : Int).toNat).drop (x9 : Int).toNat)).bind fun t127 => ((some (([] : List Int) : List Int)).bind fun y130 => (if y130.length + x4.length < 17592186044416 then (spec_l1Sum.l3 k x4 x6 x7 x9 t127 (y130 ++ x4) 0) else (none)))) else (none)) else (none)) else (none)) else (spec_l1Sum.l5 k x4 (([] : List Int)) 0)
def spec_l1Sum.l3 : Nat → List Int → List Int → List Int → Int → List Int → List Int → Int → Option (List Int)
 | 0, _, _, _, _, _, _, _ => none
 | k + 1, x4, x6, x7, x9, x10, x11, x12 => if x12 < 64 then (if 0 ≤ x12 then (if x12 < (x7.length : Int) then (if x12 < (x10.length : Int) then ((spec_l1Step.f x11 (rd x7 x12) (rd x10 x12)).bind fun t138 => (spec_l1Sum.l3 k x4 x6 x7 x9 x10 t138 (wrap64 (x12 + 1)))) else (none)) else (none)) else (none)) else (spec_l1Sum.l4 k x4 x6 x7 x9 x11 0)
def spec_l1Sum.l4 : Nat → List Int → List Int → List Int → Int → List Int → Int → Option (List Int)
 | 0, _, _, _, _, _, _ => none
 | k + 1, x4, x6, x7, x9, x11, x13 => if x13 < 8 then (if 0 ≤ x13 then (if x13 < (x4.length : Int) then (if x13 < (x11.length : Int) then ((spec_l1Word.f (IntKind.u64.wrap ((rd x4 x13) + (rd x11 x13)))).bind fun t143 => (spec_l1Sum.l4 k (x4.set (x13 : Int).toNat t143) x6 x7 x9 x11 (wrap64 (x13 + 1)))) else (none)) else (none)) else (none)) else (spec_l1Sum.l2 k x4 x6 x7 (wrap64 (x9 + 64)))
def spec_l1Sum.l5 : Nat → List Int → List Int → Int → Option (List Int)
 | 0, _, _, _ => none
 | k + 1, x4, x14, x15 => if x15 < 8 then (if 0 ≤ x15 then (if x15 < (x4.length : Int) then ((some (([((rd x4 x15) / 16777216) % 256, ((rd x4 x15) / 65536) % 256, ((rd x4 x15) / 256) % 256, (rd x4 x15) % 256] : List Int) : List Int)).bind fun y152 => (if x14.length + y152.length < 140737488355328 then (spec_l1Sum.l5 k x4 (x14 ++ y152) (wrap64 (x15 + 1))) else (none))) else (none)) else (none)) else (some x14)
end
def spec_l1Sum.f (k : Nat) (l0 : List Int) : Option (List Int) := (spec_l1Primes.f k 64).bind fun t101 => (spec_l1Sum.l0 k l0 t101 (([] : List Int)) 0)
theorem spec_l1Sum.mono_l : ∀ k, (∀ y0 y1 y2 y3, LeO (spec_l1Sum.l0 k y0 y1 y2 y3) (spec_l1Sum.l0 (k + 1) y0 y1 y2 y3)) ∧ (∀ y0 y1 y2 y3 y4, LeO (spec_l1Sum.l1 k y0 y1 y2 y3 y4) (spec_l1Sum.l1 (k + 1) y0 y1 y2 y3 y4)) ∧ (∀ y0 y1 y2 y3, LeO (spec_l1Sum.l2 k y0 y1 y2 y3) (spec_l1Sum.l2 (k + 1) y0 y1 y2 y3)) ∧ (∀ y0 y1 y2 y3 y4 y5 y6, LeO (spec_l1Sum.l3 k y0 y1 y2 y3 y4 y5 y6) (spec_l1Sum.l3 (k + 1) y0 y1 y2 y3 y4 y5 y6)) ∧ (∀ y0 y1 y2 y3 y4 y5, LeO (spec_l1Sum.l4 k y0 y1 y2 y3 y4 y5) (spec_l1Sum.l4 (k + 1) y0 y1 y2 y3 y4 y5)) ∧ (∀ y0 y1 y2, LeO (spec_l1Sum.l5 k y0 y1 y2) (spec_l1Sum.l5 (k + 1) y0 y1 y2))
 | 0 => ⟨fun _ _ _ _ r h => by simp [spec_l1Sum.l0] at h, fun _ _ _ _ _ r h => by simp [spec_l1Sum.l1] at h, fun _ _ _ _ r h => by simp [spec_l1Sum.l2] at h, fun _ _ _ _ _ _ _ r h => by simp [spec_l1Sum.l3] at h, fun _ _ _ _ _ _ r h => by simp [spec_l1Sum.l4] at h, fun _ _ _ r h => by simp [spec_l1Sum.l5] at h⟩
 | k + 1 => by
  obtain ⟨ih0, ih1, ih2, ih3, ih4, ih5⟩ := spec_l1Sum.mono_l k
  refine ⟨?_, ?_, ?_, ?_, ?_, ?_⟩
  ·
   intro y0 y1 y2 y3
   unfold spec_l1Sum.l0
   repeat' first | (with_reducible first | exact ih0 .. | exact ih1 .. | exact ih2 .. | exact ih3 .. | exact ih4 .. | exact ih5 .. | exact spec_l1Primes.mono .. | exact spec_l1Root.mono .. | exact spec_l1Whole.mono .. | exact spec_l1Words.mono .. | exact LeO.refl .. | exact LeO.none .. | refine LeO.ite ?_ ?_ | refine LeO.bind ?_ (fun _ => ?_)) | exact ih0 .. | exact ih1 .. | exact ih2 .. | exact ih3 .. | exact ih4 .. | exact ih5 .. | exact spec_l1Primes.mono .. | exact spec_l1Root.mono .. | exact spec_l1Whole.mono .. | exact spec_l1Words.mono .. | exact LeO.none .. | refine LeO.ite ?_ ?_ | refine LeO.bind ?_ (fun _ => ?_)
  ·
   intro y0 y1 y2 y3 y4
   unfold spec_l1Sum.l1
   repeat' first | (with_reducible first | exact ih0 .. | exact ih1 .. | exact ih2 .. | exact ih3 .. | exact ih4 .. | exact ih5 .. | exact spec_l1Primes.mono .. | exact spec_l1Root.mono .. | exact spec_l1Whole.mono .. | exact spec_l1Words.mono .. | exact LeO.refl .. | exact LeO.none .. | refine LeO.ite ?_ ?_ | refine LeO.bind ?_ (fun _ => ?_)) | exact ih0 .. | exact ih1 .. | exact ih2 .. | exact ih3 .. | exact ih4 .. | exact ih5 .. | exact spec_l1Primes.mono .. | exact spec_l1Root.mono .. | exact spec_l1Whole.mono .. | exact spec_l1Words.mono .. | exact LeO.none .. | refine LeO.ite ?_ ?_ | refine LeO.bind ?_ (fun _ => ?_)
  ·
   intro y0 y1 y2 y3
   unfold spec_l1Sum.l2
   repeat' first | (with_reducible first | exact ih0 .. | exact ih1 .. | exact ih2 .. | exact ih3 .. | exact ih4 .. | exact ih5 .. | exact spec_l1Primes.mono .. | exact spec_l1Root.mono .. | exact spec_l1Whole.mono .. | exact spec_l1Words.mono .. | exact LeO.refl .. | exact LeO.none .. | refine LeO.ite ?_ ?_ | refine LeO.bind ?_ (fun _ => ?_)) | exact ih0 .. | exact ih1 .. | exact ih2 .. | exact ih3 .. | exact ih4 .. | exact ih5 .. | exact spec_l1Primes.mono .. | exact spec_l1Root.mono .. | exact spec_l1Whole.mono .. | exact spec_l1Words.mono .. | exact LeO.none .. | refine LeO.ite ?_ ?_ | refine LeO.bind ?_ (fun _ => ?_)
  ·
   intro y0 y1 y2 y3 y4 y5 y6
   unfold spec_l1Sum.l3
   repeat' first | (with_reducible first | exact ih0 .. | exact ih1 .. | exact ih2 .. | exact ih3 .. | exact ih4 .. | exact ih5 .. | exact spec_l1Primes.mono .. | exact spec_l1Root.mono .. | exact spec_l1Whole.mono .. | exact spec_l1Words.mono .. | exact LeO.refl .. | exact LeO.none .. | refine LeO.ite ?_ ?_ | refine LeO.bind ?_ (fun _ => ?_)) | exact ih0 .. | exact ih1 .. | exact ih2 .. | exact ih3 .. | exact ih4 .. | exact ih5 .. | exact spec_l1Primes.mono .. | exact spec_l1Root.mono .. | exact spec_l1Whole.mono .. | exact spec_l1Words.mono .. | exact LeO.none .. | refine LeO.ite ?_ ?_ | refine LeO.bind ?_ (fun _ => ?_)
  ·
   intro y0 y1 y2 y3 y4 y5
   unfold spec_l1Sum.l4
   repeat' first | (with_reducible first | exact ih0 .. | exact ih1 .. | exact ih2 .. | exact ih3 .. | exact ih4 .. | exact ih5 .. | exact spec_l1Primes.mono .. | exact spec_l1Root.mono .. | exact spec_l1Whole.mono .. | exact spec_l1Words.mono .. | exact LeO.refl .. | exact LeO.none .. | refine LeO.ite ?_ ?_ | refine LeO.bind ?_ (fun _ => ?_)) | exact ih0 .. | exact ih1 .. | exact ih2 .. | exact ih3 .. | exact ih4 .. | exact ih5 .. | exact spec_l1Primes.mono .. | exact spec_l1Root.mono .. | exact spec_l1Whole.mono .. | exact spec_l1Words.mono .. | exact LeO.none .. | refine LeO.ite ?_ ?_ | refine LeO.bind ?_ (fun _ => ?_)
  ·
   intro y0 y1 y2
   unfold spec_l1Sum.l5
   repeat' first | (with_reducible first | exact ih0 .. | exact ih1 .. | exact ih2 .. | exact ih3 .. | exact ih4 .. | exact ih5 .. | exact spec_l1Primes.mono .. | exact spec_l1Root.mono .. | exact spec_l1Whole.mono .. | exact spec_l1Words.mono .. | exact LeO.refl .. | exact LeO.none .. | refine LeO.ite ?_ ?_ | refine LeO.bind ?_ (fun _ => ?_)) | exact ih0 .. | exact ih1 .. | exact ih2 .. | exact ih3 .. | exact ih4 .. | exact ih5 .. | exact spec_l1Primes.mono .. | exact spec_l1Root.mono .. | exact spec_l1Whole.mono .. | exact spec_l1Words.mono .. | exact LeO.none .. | refine LeO.ite ?_ ?_ | refine LeO.bind ?_ (fun _ => ?_)
theorem spec_l1Sum.mono : ∀ a0 k, LeO (spec_l1Sum.f k a0) (spec_l1Sum.f (k + 1) a0) := by
 intro a0 k
 obtain ⟨ih0, ih1, ih2, ih3, ih4, ih5⟩ := spec_l1Sum.mono_l k
 unfold spec_l1Sum.f
 repeat' first | (with_reducible first | exact ih0 .. | exact ih1 .. | exact ih2 .. | exact ih3 .. | exact ih4 .. | exact ih5 .. | exact spec_l1Primes.mono .. | exact spec_l1Root.mono .. | exact spec_l1Whole.mono .. | exact spec_l1Words.mono .. | exact LeO.refl .. | exact LeO.none .. | refine LeO.ite ?_ ?_ | refine LeO.bind ?_ (fun _ => ?_)) | exact ih0 .. | exact ih1 .. | exact ih2 .. | exact ih3 .. | exact ih4 .. | exact ih5 .. | exact spec_l1Primes.mono .. | exact spec_l1Root.mono .. | exact spec_l1Whole.mono .. | exact spec_l1Words.mono .. | exact LeO.none .. | refine LeO.ite ?_ ?_ | refine LeO.bind ?_ (fun _ => ?_)
def spec_l1Sum.T21 : Bool × List (List Nat × List Nat) := (true, [([], []), ([], []), ([], []), ([1, 2], [1, 2]), ([3], [3]), ([], []), ([], []), ([5, 6], [5, 6]), ([7], [7]), ([0, 4, 8], [0, 4, 8]), ([9, 9, 0, 1, 2, 3, 4, 5, 6, 7, 8, 9], [0, 9])])
def spec_l1Sum.B21 : List Nat := [0, 0, 0, 6, 14, 0, 0, 96, 224, 511, 1023]
theorem spec_l1Sum.tab21 : rtab .any (opsOf Tryz.f83 21) = spec_l1Sum.T21 := by kernel_rfl
theorem spec_l1Sum.bits21 : waitsOk spec_l1Sum.T21.2 spec_l1Sum.B21 = true := by kernel_rfl
def spec_l1Sum.T25 : Bool × List (List Nat × List Nat) := (true, [([], []), ([], []), ([], []), ([], []), ([2, 3], [2, 3]), ([4], [4]), ([], []), ([], []), ([6, 7], [6, 7]), ([8], [8]), ([5, 9], [5, 9]), ([10], [10]), ([0, 1, 0, 1, 2, 3, 4, 5, 6, 7, 8, 9, 10, 11], [0, 1]), ([12, 11, 11, 0, 1, 2, 3, 4, 5, 6, 7, 8, 9, 10, 11], [11, 12])])
def spec_l1Sum.B25 : List Nat := [0, 0, 0, 0, 12, 28, 0, 0, 192, 448, 1020, 2044, 4095, 8191]
theorem spec_l1Sum.tab25 : rtab .any (opsOf Tryz.f83 25) = spec_l1Sum.T25 := by kernel_rfl
theorem spec_l1Sum.bits25 : waitsOk spec_l1Sum.T25.2 spec_l1Sum.B25 = true := by kernel_rfl
def spec_l1Sum.T30 : Bool × List (List Nat × List Nat) := (true, [([], []), ([], []), ([], []), ([1, 2], [1, 2]), ([3], [3]), ([4], [4]), ([5], [5]), ([], []), ([], []), ([7, 8], [7, 8]), ([9], [9]), ([10], [10]), ([11], [11]), ([], []), ([], []), ([13, 14], [13, 14]), ([15], [15]), ([16], [16]), ([17], [17]), ([], []), ([], []), ([19, 20], [19, 20]), ([21], [21]), ([22], [22]), ([6, 12, 18, 23], [6, 12, 18, 23]), ([0, 24], [0, 24]), ([25, 25, 0, 1, 2, 3, 4, 5, 6, 7, 8, 9, 10, 11, 12, 13, 14, 15, 16, 17, 18, 19, 20, 21, 22, 23, 24, 25], [0, 25])])
def spec_l1Sum.B30 : List Nat := [0, 0, 0, 6, 14, 30, 62, 0, 0, 384, 896, 1920, 3968, 0, 0, 24576, 57344, 122880, 253952, 0, 0, 1572864, 3670016, 7864320, 16777214, 33554431, 67108863]
theorem spec_l1Sum.tab30 : rtab .any (opsOf Tryz.f83 30) = spec_l1Sum.T30 := by kernel_rfl
theorem spec_l1Sum.bits30 : waitsOk spec_l1Sum.T30.2 spec_l1Sum.B30 = true := by kernel_rfl
set_option maxHeartbeats 8000000 in
set_option maxRecDepth 100000 in
theorem spec_l1Sum.calls (k : Nat) (A0 : Option Addr) (c0 : Nat) (l0 : List Int) (r : List Int) (w : World) (hr0 : Kd.C (yag .u8) w A0 l0.length l0) (hc0 : l0.length ≤ c0) (h : spec_l1Sum.f k l0 = some r) :
  Calls Tryz.prog 83 #[.slice A0 l0.length c0] w fun e w' => ∃ v0_ : Value, e = .returned (v0_) ∧ Kd.R (yag .u8) 5 w' w.heap.size (fun _ => True) v0_ r ∧ Below w.heap.size w w' := by
 have HR0 := yaa hr0; have HC0 := yaa hc0; clear hr0 hc0; have HB := yaa (Below.refl w.heap.size w); have H : ((spec_l1Primes.f k 64).bind fun b1 => (spec_l1Sum.l0 k l0 b1 (([] : List Int)) 0)) = some r := h; clear h; obtain ⟨b1, A2, H⟩ := bindA H; (try dsimp only at H); obtain ⟨y104, hy104⟩ : ∃ y_ : List Int, y_ = (([] : List Int)) := ⟨_, rfl⟩
 replace H : (spec_l1Sum.l0 k l0 b1 y104 0) = some r := by first | (rw [hy104]; with_reducible exact H) | (have H2_ := (Option.bind_some _ _).symm.trans H; rw [hy104]; with_reducible exact H2_) | (have H2_ := (Option.bind_some _ _).symm.trans H; with_reducible exact H2_) | with_reducible exact H | (rw [hy104]; exact H) | exact H
 have Ny104 := yaa hy104; clear hy104; have H' := yaa H; clear H
 go_enter Tryz.func83, Tryz.ntmps83
 go_wp2_with (first | ((with_reducible refine gc_ 97 rfl ?_); refine gl_ (some 16) rfl Tryz.func97 #[.int .i64 64] ?_; (with_reducible refine (spec_l1Primes.calls k 64 b1 _ A2.out).mono ?_); rintro e w3 ⟨g1, rfl, ho0, hb⟩; refine ⟨_, rfl, ?_⟩; have e9 := yaa (Kd.R_lower ho0 (below_size (upH HB.out))); replace HB := yaa (below_step (upH HB.out) hb); (try clear hb ho0)) | ((with_reducible refine gd_ 17 rfl ?_); refine Kd.R_lit (yag .u64) _ 149 ?hg (N := 17) ?hd (xs := ([] : List Int)) (inner := []) (ok := fun _ => True) (okp := fun _ => True) ?hr ?hp (fun _ hk => hk) trivial (Below.refl _ _) (Nat.le_refl _) (by simp) ?_; (case hd => rfl); (case hg => rfl); (case hr => first | (go_simp; done) | (go_simp; rfl)); (case hp => exact (Reps.none _ _)); intro n9 w4 ho5 hb hg_ hnew_; clear hg_ hnew_; (first | rw [← Ny104.out] at ho5 | (simp only [Int.reduceToNat] at ho5; rw [← Ny104.out] at ho5)); have i3 := yaa (Kd.R_lower (Kd.R_new' ho5 (Kd.R_lt (upR e9.out))) (below_size (upH HB.out))); replace e9 := yaa (yai (upR e9.out) (Kd.R_base ho5) hb); replace HB := yaa (below_step (upH HB.out) hb); clear hb ho5))
 (try simp only [Act.put, List.setIfInBounds_toArray, List.set_cons_zero, List.set_cons_succ])
 go_loopg [4, 5] k (fun kq v4 v5 w' => ∃ (d5 : List Int) (b6 : Int), v5 = .int .i64 b6 ∧ yah (spec_l1Sum.l0 kq l0 b1 d5 b6 = some r) ∧ yah (kq ≤ k) ∧ yah (Kd.R (yag .u64) 149 w' w.heap.size (fun k_ => some k_ ≠ (v4 : Value).ownBlock) g1 b1) ∧ yah (Kd.R (yag .u64) 149 w' w.heap.size (fun k_ => some k_ ≠ (g1 : Value).ownBlock) v4 d5) ∧ yah (Below w.heap.size w w'))
 case atStart => exact ⟨(y104), (0), (by first | rfl | (simp; done) | (simp [*]; done)), H', ⟨Nat.le_refl _⟩, ⟨by (with_reducible repeat (first | apply yac | apply yad | apply yab)); exact yae e9.out (fun _ hk => by first | exact hk.2 | exact True.intro)⟩, ⟨by (with_reducible repeat (first | apply yac | apply yad | apply yab)); exact yae i3.out (fun _ hk => by first | exact hk.2 | exact True.intro)⟩, ⟨upH HB.out⟩⟩
 case round =>
  clear H'; (try clear p2); obtain ⟨d5, b6, rfl, HA, HK1, b2, a2, HB⟩ := hrel
  cases gk with
  | zero => exact absurd HA.out (by simp [spec_l1Sum.l0])
  | succ k1 =>
   have H := HA.out; clear HA
   simp only [spec_l1Sum.l0] at H
   by_cases c6 : b6 < 8
   ·
    rw [if_pos c6] at H
    have f6 : decide (b6 < 8) = true := decide_eq_true c6; clear c6
    by_cases c7 : 0 ≤ b6
    rotate_left
    ·
     rw [if_neg c7] at H
     exact absurd H (by simp)
    rw [if_pos c7] at H
    replace c7 := decide_eq_true c7
    by_cases c8 : b6 < (b1.length : Int)
    ·
     rw [if_pos c8] at H
     replace c8 := decide_eq_true c8; obtain ⟨h0, A9, H⟩ := bindA H; (try dsimp only at H)
     by_cases c10 : d5.length < 17592186044416
     ·
      rw [if_pos c10] at H
      have LMc10 := yaa c10; clear c10; obtain ⟨y109, hy109⟩ : ∃ y_ : List Int, y_ = (d5 ++ [h0]) := ⟨_, rfl⟩
      replace H : (spec_l1Sum.l0 k1 l0 b1 y109 (wrap64 (b6 + 1))) = some r := by first | (rw [hy109]; with_reducible exact H) | (have H2_ := (Option.bind_some _ _).symm.trans H; rw [hy109]; with_reducible exact H2_) | (have H2_ := (Option.bind_some _ _).symm.trans H; with_reducible exact H2_) | with_reducible exact H | (rw [hy109]; exact H) | exact H
      have Ny109 := yaa hy109; clear hy109; have H' := yaa H; clear H; obtain ⟨o0, k8, k9⟩ := Kd.R_slice b2.out; subst k9; have p107 : 0 ≤ (b6 : Int) := of_decide_eq_true (by assumption); have q107 : b6 < (b1.length : Int) := of_decide_eq_true (by assumption); obtain ⟨ad107, l6, b8⟩ := Kd.at_int (yaf b2.out).2.2 b6 p107 q107
      cases l6
      replace p107 := eq_true p107; replace q107 := eq_true q107
      go_wp2_with (first | ((with_reducible refine gc_ 98 rfl ?_); refine gl_ (some 27) rfl Tryz.func98 #[.int .u64 (rd b1 b6), .int .i64 2] ?_; (with_reducible refine (spec_l1Root.calls k1 (rd b1 b6) 2 h0 _ A9.out).mono ?_); rintro e w' ⟨rfl, ⟨nd, rfl⟩⟩; refine ⟨_, rfl, ?_⟩) | ((with_reducible refine gate_builtin (b := .append) (xs := #[.tmp 22, .tmp 28]) rfl ?_); at_builtin; refine Kd.R_append (yag .u64) (w0 := w) w.heap.size rfl (.tmp 22) (.tmp 28) 156 149 (.int .u64 0) 8 rfl Tryz.underlying156 info149 rfl (by decide) (by omega) u4 d5 h0 [.int .u64 h0] (fun k_ => some k_ ≠ (.slice (some ad107) b1.length k8 : Value).ownBlock) (fun _ => False) rfl rfl ?aP (fun _ hk => hk.elim) ?aF ?aO ?aB ?aS ?aL ?_; (case aP => exact rfl); (case aB => exact (upH HB.out)); (case aF => exact (fun k_ hk => Kd.fresh' (Kd.R_lt (upR b2.out)) k_ hk)); (case aO => exact (upR a2.out)); (case aS => exact (below_size (upH HB.out))); (case aL => have := LMc10.out; omega); intro o1 w12 ho hb hg hat; rw [← Ny109.out] at ho; replace b2 := yaa (Kd.R_after (ok := (fun _ => True)) (by (with_reducible repeat (first | apply yac | apply yad | apply yab)); exact yae b2.out (fun _ hk => ⟨trivial, hk⟩)) hg hat); replace HB := yaa (hb); have h5 := yaa (ho); clear a2; clear ho hb hg hat))
      go_roundg k1
      case measure => have := HK1.out; omega
      case rel => exact ⟨(y109), (wrap64 (b6 + 1)), (by first | rfl | (simp; done) | (simp [*]; done)), H', ⟨by have := HK1.out; omega⟩, ⟨by (with_reducible repeat (first | apply yac | apply yad | apply yab)); exact yae b2.out (fun _ hk => by first | exact hk.2 | exact True.intro)⟩, ⟨by first | exact h5.out | exact upR h5.out⟩, ⟨upH HB.out⟩⟩
     rw [if_neg c10] at H
     exact absurd H (by simp)
    rw [if_neg c8] at H
    exact absurd H (by simp)
   rw [if_neg c6] at H
   have f6 : decide (b6 < 8) = false := decide_eq_false c6; clear c6; obtain ⟨a9, A13, H⟩ := bindA H; (try dsimp only at H); obtain ⟨y115, hy115⟩ : ∃ y_ : List Int, y_ = (([] : List Int)) := ⟨_, rfl⟩
   replace H : (spec_l1Sum.l1 k1 b1 d5 a9 y115 0) = some r := by first | (rw [hy115]; with_reducible exact H) | (have H2_ := (Option.bind_some _ _).symm.trans H; rw [hy115]; with_reducible exact H2_) | (have H2_ := (Option.bind_some _ _).symm.trans H; with_reducible exact H2_) | with_reducible exact H | (rw [hy115]; exact H) | exact H
   have Ny115 := yaa hy115; clear hy115; have H' := yaa H; clear H
   go_wp2_with (first | ((with_reducible refine gc_ 99 rfl ?_); refine gl_ (some 31) rfl Tryz.func99 #[.slice A0 l0.length c0] ?_; (with_reducible refine (spec_l1Whole.calls k1 _ _ l0 a9 _ ?side1 ?side2 A13.out).mono ?_); (case side1 => repeat (first | exact (Kd.C_below HR0.out HB.out) | (with_reducible refine Kd.C_alloc ?_ _) | (with_reducible refine Kd.C_drewN ?_ _) | (with_reducible refine Kd.C_drew ?_))); (case side2 => exact HC0.out); rintro e w14 ⟨i4, rfl, ho0, hb⟩; refine ⟨_, rfl, ?_⟩; replace b2 := yaa (Kd.R_below (upR b2.out) hb); replace a2 := yaa (Kd.R_below (upR a2.out) hb); have f0 := yaa (Kd.R_lower ho0 (below_size (upH HB.out))); replace HB := yaa (below_step (upH HB.out) hb); (try clear hb ho0)) | ((with_reducible refine gd_ 32 rfl ?_); refine Kd.R_lit (yag .u64) _ 149 ?hg (N := 32) ?hd (xs := ([] : List Int)) (inner := []) (ok := fun _ => True) (okp := fun _ => True) ?hr ?hp (fun _ hk => hk) trivial (Below.refl _ _) (Nat.le_refl _) (by simp) ?_; (case hd => rfl); (case hg => rfl); (case hr => first | (go_simp; done) | (go_simp; rfl)); (case hp => exact (Reps.none _ _)); intro o2 w15 e7 hb hg_ hnew_; clear hg_ hnew_; (first | rw [← Ny115.out] at e7 | (simp only [Int.reduceToNat] at e7; rw [← Ny115.out] at e7)); replace f0 := yaa (Kd.R_below (upR f0.out) hb); have i5 := yaa (Kd.R_lower (Kd.R_new' (Kd.R_new' e7 (Kd.R_lt (upR b2.out))) (Kd.R_lt (upR a2.out))) (below_size (upH HB.out))); replace b2 := yaa (yai (upR b2.out) (Kd.R_base e7) hb); replace a2 := yaa (yai (upR a2.out) (Kd.R_base e7) hb); replace HB := yaa (below_step (upH HB.out) hb); clear hb e7))
   (try simp only [Act.put, List.setIfInBounds_toArray, List.set_cons_zero, List.set_cons_succ])
   go_loopg [7, 8] k1 (fun kq v7 v8 w' => ∃ (b4 : List Int) (b7 : Int), v8 = .int .i64 b7 ∧ yah (spec_l1Sum.l1 kq b1 d5 a9 b4 b7 = some r) ∧ yah (kq ≤ k1) ∧ yah (Kd.R (yag .u64) 149 w' w.heap.size (fun k_ => some k_ ≠ (u4 : Value).ownBlock ∧ some k_ ≠ (v7 : Value).ownBlock) g1 b1) ∧ yah (Kd.R (yag .u64) 149 w' w.heap.size (fun k_ => some k_ ≠ (g1 : Value).ownBlock ∧ some k_ ≠ (v7 : Value).ownBlock) u4 d5) ∧ yah (Kd.R (yag .u8) 5 w' w.heap.size (fun _ => True) i4 a9) ∧ yah (Kd.R (yag .u64) 149 w' w.heap.size (fun k_ => some k_ ≠ (g1 : Value).ownBlock ∧ some k_ ≠ (u4 : Value).ownBlock) v7 b4) ∧ yah (Below w.heap.size w w'))
   case atStart => exact ⟨(y115), (0), (by first | rfl | (simp; done) | (simp [*]; done)), H', ⟨Nat.le_refl _⟩, ⟨by first | exact b2.out | exact upR b2.out⟩, ⟨by first | exact a2.out | exact upR a2.out⟩, ⟨by first | exact f0.out | exact upR f0.out⟩, ⟨by (with_reducible repeat (first | apply yac | apply yad | apply yab)); exact yae i5.out (fun _ hk => ⟨hk.1.2, hk.2⟩)⟩, ⟨upH HB.out⟩⟩
   case round =>
    clear H'; (try clear c1); (try clear p1); (try clear q1); (try clear hx1); (try clear p2); (try clear c6); (try clear f6); (try clear p6); (try clear c7); (try clear c7b0); (try clear c8); (try clear c8b0); (try clear c9); (try clear c10); (try clear p10); (try clear q10); (try clear hx10); (try clear b8); (try clear p107); (try clear p2); (try clear q107); obtain ⟨b4, b7, rfl, HA, HK2, b2, a2, a5, a8, HB⟩ := hrel
    cases gk with
    | zero => exact absurd HA.out (by simp [spec_l1Sum.l1])
    | succ k2 =>
     have H := HA.out; clear HA
     simp only [spec_l1Sum.l1] at H
     by_cases c17 : b7 < 64
     ·
      rw [if_pos c17] at H
      have e2 : decide (b7 < 64) = true := decide_eq_true c17; clear c17
      by_cases c18 : 0 ≤ b7
      rotate_left
      ·
       rw [if_neg c18] at H
       exact absurd H (by simp)
      rw [if_pos c18] at H
      replace c18 := decide_eq_true c18
      by_cases c19 : b7 < (b1.length : Int)
      ·
       rw [if_pos c19] at H
       replace c19 := decide_eq_true c19; obtain ⟨h4, A20, H⟩ := bindA H; (try dsimp only at H)
       by_cases c21 : b4.length < 17592186044416
       ·
        rw [if_pos c21] at H
        have LMc21 := yaa c21; clear c21; obtain ⟨y120, hy120⟩ : ∃ y_ : List Int, y_ = (b4 ++ [h4]) := ⟨_, rfl⟩
        replace H : (spec_l1Sum.l1 k2 b1 d5 a9 y120 (wrap64 (b7 + 1))) = some r := by first | (rw [hy120]; with_reducible exact H) | (have H2_ := (Option.bind_some _ _).symm.trans H; rw [hy120]; with_reducible exact H2_) | (have H2_ := (Option.bind_some _ _).symm.trans H; with_reducible exact H2_) | with_reducible exact H | (rw [hy120]; exact H) | exact H
        have Ny120 := yaa hy120; clear hy120; have H' := yaa H; clear H; obtain ⟨o3, i6, l7⟩ := Kd.R_slice b2.out; subst l7; have p118 : 0 ≤ (b7 : Int) := of_decide_eq_true (by assumption); have q118 : b7 < (b1.length : Int) := of_decide_eq_true (by assumption); obtain ⟨ad118, l8, d1⟩ := Kd.at_int (yaf b2.out).2.2 b7 p118 q118
        cases l8
        replace p118 := eq_true p118; replace q118 := eq_true q118
        go_wp2_with (first | ((with_reducible refine gc_ 98 rfl ?_); refine gl_ (some 42) rfl Tryz.func98 #[.int .u64 (rd b1 b7), .int .i64 3] ?_; (with_reducible refine (spec_l1Root.calls k2 (rd b1 b7) 3 h4 _ A20.out).mono ?_); rintro e w' ⟨rfl, ⟨nd, rfl⟩⟩; refine ⟨_, rfl, ?_⟩) | ((with_reducible refine gate_builtin (b := .append) (xs := #[.tmp 37, .tmp 43]) rfl ?_); at_builtin; refine Kd.R_append (yag .u64) (w0 := w) w.heap.size rfl (.tmp 37) (.tmp 43) 156 149 (.int .u64 0) 8 rfl Tryz.underlying156 info149 rfl (by decide) (by omega) u7 b4 h4 [.int .u64 h4] (fun k_ => some k_ ≠ (.slice (some ad118) b1.length i6 : Value).ownBlock ∧ some k_ ≠ (u4 : Value).ownBlock) (fun _ => False) rfl rfl ?aP (fun _ hk => hk.elim) ?aF ?aO ?aB ?aS ?aL ?_; (case aP => exact rfl); (case aB => exact (upH HB.out)); (case aF => exact (fun k_ hk => ⟨Kd.fresh' (Kd.R_lt (upR b2.out)) k_ hk, Kd.fresh' (Kd.R_lt (upR a2.out)) k_ hk⟩)); (case aO => exact (upR a8.out)); (case aS => exact (below_size (upH HB.out))); (case aL => have := LMc21.out; omega); intro o4 w23 ho hb hg hat; rw [← Ny120.out] at ho; replace b2 := yaa (Kd.R_after (ok := (fun k_ => some k_ ≠ (u4 : Value).ownBlock)) (upR b2.out) hg hat); replace a2 := yaa (Kd.R_after (ok := (fun k_ => some k_ ≠ (.slice (some ad118) b1.length i6 : Value).ownBlock)) (upR a2.out) hg hat); replace a5 := yaa (Kd.R_over' (upR a5.out) (Kd.R_typed (upR a8.out)) (by decide) hg); replace HB := yaa (hb); have h6 := yaa (ho); clear a8; clear ho hb hg hat))
        go_roundg k2
        case measure => have := HK1.out; have := HK2.out; omega
        case rel => exact ⟨(y120), (wrap64 (b7 + 1)), (by first | rfl | (simp; done) | (simp [*]; done)), H', ⟨by have := HK1.out; have := HK2.out; omega⟩, ⟨by first | exact b2.out | exact upR b2.out⟩, ⟨by first | exact a2.out | exact upR a2.out⟩, ⟨by first | exact a5.out | exact upR a5.out⟩, ⟨by first | exact h6.out | exact upR h6.out⟩, ⟨upH HB.out⟩⟩
       rw [if_neg c21] at H
       exact absurd H (by simp)
      rw [if_neg c19] at H
      exact absurd H (by simp)
     rw [if_neg c17] at H
     have e2 : decide (b7 < 64) = false := decide_eq_false c17; clear c17; have H' := yaa H; clear H
     go_wp2
     (try simp only [Act.put, List.setIfInBounds_toArray, List.set_cons_zero, List.set_cons_succ])
     go_loopg [9] k2 (fun kq v9 w' => ∃ (a3 : List Int) (a6 : Int), v9 = .int .i64 a6 ∧ yah (spec_l1Sum.l2 kq a3 a9 b4 a6 = some r) ∧ yah (kq ≤ k2) ∧ yah (Kd.R (yag .u64) 149 w' w.heap.size (fun k_ => some k_ ≠ (u7 : Value).ownBlock) u4 a3) ∧ yah (Kd.R (yag .u8) 5 w' w.heap.size (fun _ => True) i4 a9) ∧ yah (Kd.R (yag .u64) 149 w' w.heap.size (fun k_ => some k_ ≠ (u4 : Value).ownBlock) u7 b4) ∧ yah (Below w.heap.size w w'))
     case atStart => exact ⟨(d5), (0), (by first | rfl | (simp; done) | (simp [*]; done)), H', ⟨Nat.le_refl _⟩, ⟨by (with_reducible repeat (first | apply yac | apply yad | apply yab)); exact yae a2.out (fun _ hk => by first | exact hk.2 | exact True.intro)⟩, ⟨by first | exact a5.out | exact upR a5.out⟩, ⟨by (with_reducible repeat (first | apply yac | apply yad | apply yab)); exact yae a8.out (fun _ hk => by first | exact hk.2 | exact True.intro)⟩, ⟨upH HB.out⟩⟩
     case round =>
      clear H'; (try clear c1); (try clear p1); (try clear q1); (try clear hx1); (try clear c2); (try clear p2); (try clear c6); (try clear f6); (try clear p6); (try clear c7); (try clear c7b0); (try clear c8); (try clear c8b0); (try clear c9); (try clear c10); (try clear p10); (try clear q10); (try clear hx10); (try clear p11); (try clear q11); (try clear hx11); (try clear c17); (try clear e2); (try clear c18); (try clear c18b0); (try clear c19); (try clear c19b0); (try clear c21); (try clear b8); (try clear d1); (try clear p1); (try clear p10); (try clear p107); (try clear p118); (try clear p2); (try clear p6); (try clear q1); (try clear q10); (try clear q107); (try clear q118); obtain ⟨a3, a6, rfl, HA, HK3, a2, a5, a8, HB⟩ := hrel
      cases gk with
      | zero => exact absurd HA.out (by simp [spec_l1Sum.l2])
      | succ k3 =>
       have H := HA.out; clear HA
       simp only [spec_l1Sum.l2] at H
       by_cases c24 : a6 < (a9.length : Int)
       rotate_left
       ·
        rw [if_neg c24] at H
        have f1 : decide (a6 < (a9.length : Int)) = false := decide_eq_false c24; clear c24; obtain ⟨y145, hy145⟩ : ∃ y_ : List Int, y_ = (([] : List Int)) := ⟨_, rfl⟩
        replace H : (spec_l1Sum.l5 k3 a3 y145 0) = some r := by first | (rw [hy145]; with_reducible exact H) | (have H2_ := (Option.bind_some _ _).symm.trans H; rw [hy145]; with_reducible exact H2_) | (have H2_ := (Option.bind_some _ _).symm.trans H; with_reducible exact H2_) | with_reducible exact H | (rw [hy145]; exact H) | exact H
        have Ny145 := yaa hy145; clear hy145; have H' := yaa H; clear H; obtain ⟨p9, q0, m9⟩ := Kd.R_slice a5.out; subst m9
        go_wp2_with (first | ((with_reducible refine gd_ 91 rfl ?_); refine Kd.R_lit (yag .u8) _ 5 ?hg (N := 91) ?hd (xs := ([] : List Int)) (inner := []) (ok := fun _ => True) (okp := fun _ => True) ?hr ?hp (fun _ hk => hk) trivial (Below.refl _ _) (Nat.le_refl _) (by simp) ?_; (case hd => rfl); (case hg => rfl); (case hr => first | (go_simp; done) | (go_simp; rfl)); (case hp => exact (Reps.none _ _)); intro q2 w57 f9 hb hg_ hnew_; clear hg_ hnew_; (first | rw [← Ny145.out] at f9 | (simp only [Int.reduceToNat] at f9; rw [← Ny145.out] at f9)); replace a2 := yaa (Kd.R_below (upR a2.out) hb); replace a8 := yaa (Kd.R_below (upR a8.out) hb); have j8 := yaa (Kd.R_lower (Kd.R_new' f9 (Kd.R_lt (upR a5.out))) (below_size (upH HB.out))); replace a5 := yaa (yai (upR a5.out) (Kd.R_base f9) hb); replace HB := yaa (below_step (upH HB.out) hb); clear hb f9))
        (try simp only [Act.put, List.setIfInBounds_toArray, List.set_cons_zero, List.set_cons_succ])
        go_loopg [14, 15] k3 (fun kq v14 v15 w' => ∃ (d0 : List Int) (a1 : Int), v15 = .int .i64 a1 ∧ yah (spec_l1Sum.l5 kq a3 d0 a1 = some r) ∧ yah (kq ≤ k3) ∧ yah (Kd.R (yag .u64) 149 w' w.heap.size (fun _ => True) u4 a3) ∧ yah (Kd.R (yag .u8) 5 w' w.heap.size (fun _ => True) v14 d0) ∧ yah (Below w.heap.size w w'))
        case atStart => exact ⟨(y145), (0), (by first | rfl | (simp; done) | (simp [*]; done)), H', ⟨Nat.le_refl _⟩, ⟨by (with_reducible repeat (first | apply yac | apply yad | apply yab)); exact yae a2.out (fun _ hk => trivial)⟩, ⟨by (with_reducible repeat (first | apply yac | apply yad | apply yab)); exact yae j8.out (fun _ hk => trivial)⟩, ⟨upH HB.out⟩⟩
        case round =>
         clear H'; (try clear c1); (try clear p1); (try clear q1); (try clear hx1); (try clear c2); (try clear p2); (try clear c3); (try clear q3); (try clear c4); (try clear c5); (try clear p5); (try clear q5); (try clear hx5); (try clear hf5); (try clear c6); (try clear f6); (try clear p6); (try clear c7); (try clear c7b0); (try clear c8); (try clear c8b0); (try clear c9); (try clear c10); (try clear p10); (try clear q10); (try clear hx10); (try clear p11); (try clear q11); (try clear hx11); (try clear p13); (try clear q13); (try clear hx13); (try clear p14); (try clear q14); (try clear hx14); (try clear c17); (try clear e2); (try clear c18); (try clear c18b0); (try clear c19); (try clear c19b0); (try clear c21); (try clear c24); (try clear f1); (try clear c25); (try clear g4); (try clear c25b1); (try clear c26); (try clear g5); (try clear g6); (try clear c27); (try clear g7); (try clear g8); (try clear c29); (try clear c31); (try clear q31); (try clear c37); (try clear g9); (try clear c38); (try clear c38b0); (try clear c39); (try clear c39b0); (try clear c40); (try clear c40b0); (try clear c47); (try clear i0); (try clear c48); (try clear c48b0); (try clear c49); (try clear c49b0); (try clear c50); (try clear c50b0); (try clear p52); (try clear q52); (try clear hx52); (try clear hf52); (try clear b8); (try clear d1); (try clear d2); (try clear d3); (try clear d4); (try clear e1); (try clear i2); (try clear p1); (try clear p10); (try clear p107); (try clear p11); (try clear p118); (try clear p13); (try clear p136); (try clear p137); (try clear p141); (try clear p142); (try clear p2); (try clear p52); (try clear p6); (try clear q031); (try clear q1); (try clear q10); (try clear q107); (try clear q11); (try clear q118); (try clear q13); (try clear q136); (try clear q137); (try clear q141); (try clear q142); (try clear q3); (try clear q31); (try clear q52); obtain ⟨d0, a1, rfl, HA, HK4, a2, b5, HB⟩ := hrel
         cases gk with
         | zero => exact absurd HA.out (by simp [spec_l1Sum.l5])
         | succ k4 =>
          have H := HA.out; clear HA
          simp only [spec_l1Sum.l5] at H
          by_cases c59 : a1 < 8
          rotate_left
          ·
           rw [if_neg c59] at H
           have j9 : decide (a1 < 8) = false := decide_eq_false c59; clear c59; obtain rfl := Option.some.inj H
           go_wp2
           go_ret
           exact ⟨_, by first | rfl | (simp [*, errW_none, errW_some] <;> rfl), by first | exact b5.out | exact upR b5.out, upH HB.out⟩
          rw [if_pos c59] at H
          have j9 : decide (a1 < 8) = true := decide_eq_true c59; clear c59
          by_cases c60 : 0 ≤ a1
          rotate_left
          ·
           rw [if_neg c60] at H
           exact absurd H (by simp)
          rw [if_pos c60] at H
          replace c60 := decide_eq_true c60
          by_cases c61 : a1 < (a3.length : Int)
          rotate_left
          ·
           rw [if_neg c61] at H
           exact absurd H (by simp)
          rw [if_pos c61] at H
          replace c61 := decide_eq_true c61; obtain ⟨y152, hy152⟩ : ∃ y_ : List Int, y_ = (([((rd a3 a1) / 16777216) % 256, ((rd a3 a1) / 65536) % 256, ((rd a3 a1) / 256) % 256, (rd a3 a1) % 256] : List Int)) := ⟨_, rfl⟩
          replace H : (if d0.length + y152.length < 140737488355328 then (spec_l1Sum.l5 k4 a3 (d0 ++ y152) (wrap64 (a1 + 1))) else (none)) = some r := by first | (rw [hy152]; with_reducible exact H) | (have H2_ := (Option.bind_some _ _).symm.trans H; rw [hy152]; with_reducible exact H2_) | (have H2_ := (Option.bind_some _ _).symm.trans H; with_reducible exact H2_) | with_reducible exact H | (rw [hy152]; exact H) | exact H
          have Ny152 := yaa hy152; clear hy152
          by_cases c62 : d0.length + y152.length < 140737488355328
          rotate_left
          ·
           rw [if_neg c62] at H
           exact absurd H (by simp)
          rw [if_pos c62] at H
          have LMc62 := yaa c62; clear c62; obtain ⟨y155, hy155⟩ : ∃ y_ : List Int, y_ = (d0 ++ y152) := ⟨_, rfl⟩
          replace H : (spec_l1Sum.l5 k4 a3 y155 (wrap64 (a1 + 1))) = some r := by first | (rw [hy155]; with_reducible exact H) | (have H2_ := (Option.bind_some _ _).symm.trans H; rw [hy155]; with_reducible exact H2_) | (have H2_ := (Option.bind_some _ _).symm.trans H; with_reducible exact H2_) | with_reducible exact H | (rw [hy155]; exact H) | exact H
          have Ny155 := yaa hy155; clear hy155; have H' := yaa H; clear H
          try go_wp2
          replace a2 := yaa (yab a2.out); replace b5 := yaa (yab b5.out); replace HB := yaa (below_drew1 HB.out); obtain ⟨q7, q8, k0⟩ := Kd.R_slice a2.out
          (first | subst k0 | (injection k0 with f1_ f2_ f3_; have f4_ := f1_.symm; have f5_ := f3_.symm; clear f1_ f2_ f3_; subst f4_; subst f5_))
          have p148 : 0 ≤ (a1 : Int) := of_decide_eq_true (by assumption); have q148 : a1 < (a3.length : Int) := of_decide_eq_true (by assumption); obtain ⟨ad148, n0, f2⟩ := Kd.at_int (yaf a2.out).2.2 a1 p148 q148
          cases n0
          replace p148 := eq_true p148; replace q148 := eq_true q148; have p149 : 0 ≤ (a1 : Int) := of_decide_eq_true (by assumption); have q149 : a1 < (a3.length : Int) := of_decide_eq_true (by assumption); obtain ⟨ad149, n1, f3⟩ := Kd.at_int (yaf a2.out).2.2 a1 p149 q149; obtain rfl : ad148 = ad149 := (by injection n1); replace p149 := eq_true p149; replace q149 := eq_true q149; have p150 : 0 ≤ (a1 : Int) := of_decide_eq_true (by assumption); have q150 : a1 < (a3.length : Int) := of_decide_eq_true (by assumption); obtain ⟨ad150, n2, f4⟩ := Kd.at_int (yaf a2.out).2.2 a1 p150 q150; obtain rfl : ad148 = ad150 := (by injection n2); replace p150 := eq_true p150; replace q150 := eq_true q150; have p151 : 0 ≤ (a1 : Int) := of_decide_eq_true (by assumption); have q151 : a1 < (a3.length : Int) := of_decide_eq_true (by assumption); obtain ⟨ad151, n3, f5⟩ := Kd.at_int (yaf a2.out).2.2 a1 p151 q151; obtain rfl : ad148 = ad151 := (by injection n3); replace p151 := eq_true p151; replace q151 := eq_true q151
          refine start_ (n := 27) (S := fun w' => w'.cell? (ad148.add (a1).toNat) = some (.int .u64 (rd a3 a1)) ∧ w'.cell? (ad148.add (a1).toNat) = some (.int .u64 (rd a3 a1)) ∧ w'.cell? (ad148.add (a1).toNat) = some (.int .u64 (rd a3 a1)) ∧ w'.cell? (ad148.add (a1).toNat) = some (.int .u64 (rd a3 a1))) (ds := [25]) q83_27 (by kernel_rfl) rfl rfl ⟨f2, f3, f4, f5⟩ (fun hHeld => ?_); refine with_tabW spec_l1Sum.tab30 spec_l1Sum.bits30 (fun HT_ HW_ => ?_)
          generalize wr.drew = w63 at a2 b5 HB f2 f3 f4 f5 hHeld ⊢
          refine pz_ 0 96 q83_28 HT_ (by kernel_rfl) ?_
          refine pz_ 1 97 q83_29 HT_ (by kernel_rfl) ?_
          refine pz_ 2 98 q83_30 HT_ (by kernel_rfl) ?_
          refine pz_ 3 99 q83_31 HT_ (by kernel_rfl) ?_
          refine pz_ 7 103 q83_32 HT_ (by kernel_rfl) ?_
          refine pz_ 8 104 q83_33 HT_ (by kernel_rfl) ?_
          refine pz_ 9 105 q83_34 HT_ (by kernel_rfl) ?_
          refine pz_ 13 109 q83_35 HT_ (by kernel_rfl) ?_
          refine pz_ 14 110 q83_36 HT_ (by kernel_rfl) ?_
          refine pz_ 15 111 q83_37 HT_ (by kernel_rfl) ?_
          refine pz_ 19 115 q83_38 HT_ (by kernel_rfl) ?_
          refine pz_ 20 116 q83_39 HT_ (by kernel_rfl) ?_
          refine pz_ 21 117 q83_40 HT_ (by kernel_rfl) ?_
          refine tz_ 4 100 q83_41 HT_ HW_ (by kernel_rfl) hHeld ?_
          refine pz_ 5 101 q83_42 HT_ (by kernel_rfl) ?_
          refine pz_ 6 102 q83_43 HT_ (by kernel_rfl) ?_
          refine tz_ 10 106 q83_44 HT_ HW_ (by kernel_rfl) hHeld ?_
          refine pz_ 11 107 q83_45 HT_ (by kernel_rfl) ?_
          refine pz_ 12 108 q83_46 HT_ (by kernel_rfl) ?_
          refine tz_ 16 112 q83_47 HT_ HW_ (by kernel_rfl) hHeld ?_
          refine pz_ 17 113 q83_48 HT_ (by kernel_rfl) ?_
          refine pz_ 18 114 q83_49 HT_ (by kernel_rfl) ?_
          refine tz_ 22 118 q83_50 HT_ HW_ (by kernel_rfl) hHeld ?_
          refine pz_ 23 119 q83_51 HT_ (by kernel_rfl) ?_
          refine one_ (i := 24) (N := some 120) q83_52 rfl rfl (one_of HT_.out (by kernel_rfl)) (by decide) (fun K hK => ?_)
          refine Kd.R_lit_step (yag .u8) _ 5 ?hg (N := 120) ?hd (xs := ([((rd a3 a1) / 16777216) % 256, ((rd a3 a1) / 65536) % 256, ((rd a3 a1) / 256) % 256, (rd a3 a1) % 256] : List Int)) (inner := [.int .u8 (((rd a3 a1) / 16777216) % 256), .int .u8 (((rd a3 a1) / 65536) % 256), .int .u8 (((rd a3 a1) / 256) % 256), .int .u8 ((rd a3 a1) % 256)]) (ok := fun _ => True) (okp := fun _ => True) ?hr ?hp (fun _ hk => hk) trivial (Below.refl _ _) (Nat.le_refl _) (by simp) ?_; (case hd => rfl); (case hg => rfl); (case hr => first | (go_simp; done) | (go_simp; rfl)); (case hp => exact (Reps.one (show Kd.M (yag .u8) _ _ _ (((rd a3 a1) / 16777216) % 256) [.int .u8 (((rd a3 a1) / 16777216) % 256)] from rfl) (Reps.one (show Kd.M (yag .u8) _ _ _ (((rd a3 a1) / 65536) % 256) [.int .u8 (((rd a3 a1) / 65536) % 256)] from rfl) (Reps.one (show Kd.M (yag .u8) _ _ _ (((rd a3 a1) / 256) % 256) [.int .u8 (((rd a3 a1) / 256) % 256)] from rfl) (Reps.one (show Kd.M (yag .u8) _ _ _ ((rd a3 a1) % 256) [.int .u8 ((rd a3 a1) % 256)] from rfl) (Reps.none _ _))))))
          intro q9 w65 g0 hb hg_ hnew_; have HS0_ := (hb.cell (World.block_lt_of_cell? _ _ (hHeld.1))).trans (hHeld.1); have HS1_ := (hb.cell (World.block_lt_of_cell? _ _ (hHeld.2.1))).trans (hHeld.2.1); have HS2_ := (hb.cell (World.block_lt_of_cell? _ _ (hHeld.2.2.1))).trans (hHeld.2.2.1); have HS3_ := (hb.cell (World.block_lt_of_cell? _ _ (hHeld.2.2.2))).trans (hHeld.2.2.2); clear hg_ hnew_
          (first | rw [← Ny152.out] at g0 | (simp only [Int.reduceToNat] at g0; rw [← Ny152.out] at g0))
          replace a2 := yaa (Kd.R_below (upR a2.out) hb); have e6 := yaa (Kd.R_lower (Kd.R_new' g0 (Kd.R_lt (upR b5.out))) (below_size (upH HB.out))); replace b5 := yaa (yai (upR b5.out) (Kd.R_base g0) hb); replace HB := yaa (below_step (upH HB.out) hb); clear hb g0; obtain ⟨n4, n5, k6⟩ := Kd.R_slice e6.out
          (first | subst k6 | (injection k6 with f1_ f2_ f3_; have f4_ := f1_.symm; have f5_ := f3_.symm; clear f1_ f2_ f3_; subst f4_; subst f5_))
          refine hK.out _ _ ⟨HS0_, HS1_, HS2_, HS3_⟩ (fun hHeld => ?_)
          clear hK K
          refine norm_ (a' := ?_) ?_ ?_
          rotate_left
          ·
           show Act.put _ (some 120) _ = _
           simp only [Act.put, List.setIfInBounds_toArray, List.set_cons_zero, List.set_cons_succ, i64_w, i32_w]
           rfl
          refine last_ (i := 25) (N := some 121) q83_53 rfl rfl (one_of HT_.out (by kernel_rfl)) (by decide) (fun K hK => ?_)
          refine Kd.R_append_rows_step (yag .u8) (w0 := w) w.heap.size (by rfl) (.tmp 96) (.tmp 120) 22 5 (.int .u8 0) 1 rfl Tryz.underlying22 info5 rfl (by decide) (by omega) u14 d0 y152 _ _ _ (fun k_ => some k_ ≠ (.slice n4 y152.length n5 : Value).ownBlock) (fun _ => False) rfl rfl ?aO ?aR (fun _ _ h => h) (fun _ h => h.elim) ?aF ?aB ?aS ?aL ?_
          (case aR => repeat (first | exact (yaf e6.out).2.2 | (with_reducible refine Kd.C_alloc ?_ _) | (with_reducible refine Kd.C_drewN ?_ _) | (with_reducible refine Kd.C_drew ?_)))
          (case aB => exact (upH HB.out))
          (case aF => exact (fun k_ hk => Kd.fresh' (Kd.R_lt (upR e6.out)) k_ hk))
          (case aO => exact (by (with_reducible repeat (first | apply yac | apply yad | apply yab)); exact yae b5.out (fun _ hk => by first | exact hk.2 | exact True.intro)))
          (case aS => exact (below_size (upH HB.out)))
          (case aL => have := LMc62.out; omega)
          intro r0 w67 ho hb hg hat
          rw [← Ny155.out] at ho
          replace a2 := yaa (Kd.R_over' (upR a2.out) (Kd.R_typed (upR b5.out)) (by decide) hg); replace e6 := yaa (Kd.R_after (ok := (fun _ => True)) (upR e6.out) hg hat); replace HB := yaa (hb); have k7 := yaa (ho); clear b5; clear ho hb hg hat
          refine hK.out _ _ ?_
          clear hK K
          refine norm_ (a' := ?_) ?_ ?_
          rotate_left
          ·
           show Act.put _ (some 121) _ = _
           simp only [Act.put, List.setIfInBounds_toArray, List.set_cons_zero, List.set_cons_succ, i64_w, i32_w]
           rfl
          refine pz_ 26 14 q83_54 HT_ (by kernel_rfl) ?_
          refine done_ (done_of HT_.out (by kernel_rfl)) ?_
          try go_wp2
          go_roundg k4
          case measure => have := HK1.out; have := HK2.out; have := HK3.out; have := HK4.out; omega
          case rel => exact ⟨(y155), (wrap64 (a1 + 1)), (by first | rfl | (simp; done) | (simp [*]; done)), H', ⟨by have := HK1.out; have := HK2.out; have := HK3.out; have := HK4.out; omega⟩, ⟨by first | exact a2.out | exact upR a2.out⟩, ⟨by (with_reducible repeat (first | apply yac | apply yad | apply yab)); exact yae k7.out (fun _ hk => trivial)⟩, ⟨upH HB.out⟩⟩
       rw [if_pos c24] at H
       have f1 : decide (a6 < (a9.length : Int)) = true := decide_eq_true c24; clear c24
       by_cases c25 : 0 ≤ a6
       rotate_left
       ·
        rw [if_neg c25] at H
        exact absurd H (by simp)
       rw [if_pos c25] at H
       have g4 := eq_true c25; replace c25 := decide_eq_true c25
       by_cases c26 : a6 ≤ (wrap64 (a6 + 64))
       rotate_left
       ·
        rw [if_neg c26] at H
        exact absurd H (by simp)
       rw [if_pos c26] at H
       have g5 := eq_true c26; have g6 : decide (a6 ≤ (wrap64 (a6 + 64))) = true := decide_eq_true c26
       by_cases c27 : (wrap64 (a6 + 64)) ≤ (a9.length : Int)
       rotate_left
       ·
        rw [if_neg c27] at H
        exact absurd H (by simp)
       rw [if_pos c27] at H
       have g7 := eq_true c27; have g8 : decide ((wrap64 (a6 + 64)) ≤ (a9.length : Int)) = true := decide_eq_true c27; obtain ⟨y123, hy123⟩ : ∃ y_ : List Int, y_ = ((a9.take ((wrap64 (a6 + 64)) : Int).toNat).drop (a6 : Int).toNat) := ⟨_, rfl⟩
       conv at H => enter [1, 1, 2]; rw [← hy123]
       have Ny123 := yaa hy123; clear hy123; obtain ⟨e0, A28, H⟩ := bindA H; (try dsimp only at H); obtain ⟨y130, hy130, H⟩ := bindY H; (try dsimp only at H); have Ny130 := yaa hy130; clear hy130
       by_cases c29 : y130.length + a3.length < 17592186044416
       rotate_left
       ·
        rw [if_neg c29] at H
        exact absurd H (by simp)
       rw [if_pos c29] at H
       have LMc29 := yaa c29; clear c29; obtain ⟨y133, hy133⟩ : ∃ y_ : List Int, y_ = (y130 ++ a3) := ⟨_, rfl⟩
       replace H : (spec_l1Sum.l3 k3 a3 a9 b4 a6 e0 y133 0) = some r := by first | (rw [hy133]; with_reducible exact H) | (have H2_ := (Option.bind_some _ _).symm.trans H; rw [hy133]; with_reducible exact H2_) | (have H2_ := (Option.bind_some _ _).symm.trans H; with_reducible exact H2_) | with_reducible exact H | (rw [hy133]; exact H) | exact H
       have Ny133 := yaa hy133; clear hy133; have H' := yaa H; clear H; obtain ⟨f7, e3, l9⟩ := Kd.R_slice a5.out; subst l9; have q31 : ((wrap64 (a6 + 64)) : Int) ≤ ((a9.length : Int) : Int) := of_decide_eq_true (by assumption); obtain ⟨i031, hi031, _, h7, _⟩ := info_parts info5; have hroom31 : a9.length ≤ e3 := (yaf a5.out).2.1; have hC31 : Kd.C (yag .u8) _ f7 a9.length a9 := (yaf a5.out).2.2; have ql31 : (a6 : Int) ≤ ((wrap64 (a6 + 64)) : Int) := of_decide_eq_true (by assumption); have q031 : (0 : Int) ≤ (a6 : Int) := of_decide_eq_true (by assumption); have hcut31 := cut_mid (P := Tryz.prog) 22 5 .i64 .i64 Tryz.underlying22 hi031 1 h7 f7 a9.length e3 a6 (wrap64 (a6 + 64)) q031 ql31 q31 hroom31; have hr31 := Kd.C_mid (lo := (a6 : Int).toNat) (hi := ((wrap64 (a6 + 64)) : Int).toNat) (c := e3) hC31 (by omega) (by omega) hroom31
       obtain ⟨A31, hA31⟩ : ∃ A1, A1 = (if e3 = (a6 : Int).toNat then f7 else (f7 : Option Addr).map (·.add ((a6 : Int).toNat * 1))) := ⟨_, rfl⟩
       obtain ⟨c31, hc31⟩ : ∃ c1, c1 = e3 - (a6 : Int).toNat := ⟨_, rfl⟩; have hy31 : y123.length = ((wrap64 (a6 + 64)) : Int).toNat - (a6 : Int).toNat := (by rw [Ny123.out, List.length_drop, List.length_take] <;> omega)
       rw [show ((a9).take ((wrap64 (a6 + 64)) : Int).toNat).drop (a6 : Int).toNat = y123 from Ny123.out.symm] at hr31
       replace hr31 : Kd.C (yag .u8) _ A31 y123.length y123 := (by rw [hA31]; exact hr31)
       rw [← hy31, ← hA31, ← hc31] at hcut31
       have HR126 := yaa hr31; have HC126 := yaa (show y123.length ≤ c31 from by rw [hy31, hc31]; exact Nat.sub_le_sub_right (Nat.le_trans (by omega) hroom31) _); clear hr31 hC31 hroom31 hi031 h7 hc31; have KY31 := yaa hy31; have KA31 := yaa hA31; clear hy31 hA31; have KL31 := yaa (show ((wrap64 (a6 + 64)) : Int).toNat ≤ a9.length from by omega); have KM31 := yaa (show (a6 : Int).toNat ≤ ((wrap64 (a6 + 64)) : Int).toNat from by omega); replace q31 := eq_true q31
       go_wp2_with (first | ((with_reducible refine gc_ 100 rfl ?_); refine gl_ (some 56) rfl Tryz.func100 #[.slice A31 y123.length c31] ?_; (with_reducible refine (spec_l1Words.calls k3 _ _ y123 e0 _ ?side1 ?side2 A28.out).mono ?_); (case side1 => repeat (first | exact (by repeat (first | (with_reducible exact HR126.out) | (with_reducible refine Kd.C_alloc ?_ _) | (with_reducible refine Kd.C_drewN ?_ _) | (with_reducible refine Kd.C_drew ?_) | exact HR126.out)) | (with_reducible refine Kd.C_alloc ?_ _) | (with_reducible refine Kd.C_drewN ?_ _) | (with_reducible refine Kd.C_drew ?_))); (case side2 => exact HC126.out); rintro e w32 ⟨e8, rfl, ho0, hb⟩; refine ⟨_, rfl, ?_⟩; replace a5 := yaa (Kd.R_below (upR a5.out) hb); have d6 := yaa (Kd.R_lower (Kd.R_new' (Kd.R_new' ho0 (Kd.R_lt (upR a2.out))) (Kd.R_lt (upR a8.out))) (below_size (upH HB.out))); replace a2 := yaa (yai (upR a2.out) (Kd.R_base ho0) hb); replace a8 := yaa (yai (upR a8.out) (Kd.R_base ho0) hb); replace HR126 := yaa (Kd.C_below (by repeat (first | (with_reducible exact HR126.out) | (with_reducible refine Kd.C_alloc ?_ _) | (with_reducible refine Kd.C_drewN ?_ _) | (with_reducible refine Kd.C_drew ?_) | exact HR126.out)) hb); replace HB := yaa (below_step (upH HB.out) hb); (try clear hb ho0)) | ((with_reducible refine gd_ 57 rfl ?_); refine Kd.R_lit (yag .u64) _ 149 ?hg (N := 57) ?hd (xs := ([] : List Int)) (inner := []) (ok := fun _ => True) (okp := fun _ => True) ?hr ?hp (fun _ hk => hk) trivial (Below.refl _ _) (Nat.le_refl _) (by simp) ?_; (case hd => rfl); (case hg => rfl); (case hr => first | (go_simp; done) | (go_simp; rfl)); (case hp => exact (Reps.none _ _)); intro m0 w33 e4 hb hg_ hnew_; clear hg_ hnew_; (first | rw [← Ny130.out] at e4 | (simp only [Int.reduceToNat] at e4; rw [← Ny130.out] at e4)); replace a5 := yaa (Kd.R_below (upR a5.out) hb); have e5 := yaa (Kd.R_lower (Kd.R_new' (Kd.R_new' (Kd.R_new' e4 (Kd.R_lt (upR a2.out))) (Kd.R_lt (upR a8.out))) (Kd.R_lt (upR d6.out))) (below_size (upH HB.out))); replace a2 := yaa (yai (upR a2.out) (Kd.R_base e4) hb); replace a8 := yaa (yai (upR a8.out) (Kd.R_base e4) hb); replace d6 := yaa (yai (upR d6.out) (Kd.R_base e4) hb); replace HR126 := yaa (Kd.C_below (by repeat (first | (with_reducible exact HR126.out) | (with_reducible refine Kd.C_alloc ?_ _) | (with_reducible refine Kd.C_drewN ?_ _) | (with_reducible refine Kd.C_drew ?_) | exact HR126.out)) hb); replace HB := yaa (below_step (upH HB.out) hb); clear hb e4; obtain ⟨d8, d9, m1⟩ := Kd.R_slice a2.out; subst m1) | ((with_reducible refine gate_builtin (b := .append) (xs := #[.tmp 57, .tmp 58]) rfl ?_); at_builtin; refine Kd.R_append_rows (yag .u64) (w0 := w) w.heap.size rfl (.tmp 57) (.tmp 58) 156 149 (.int .u64 0) 8 rfl Tryz.underlying156 info149 rfl (by decide) (by omega) m0 y130 a3 _ _ _ (fun k_ => some k_ ≠ (.slice d8 a3.length d9 : Value).ownBlock ∧ some k_ ≠ (u7 : Value).ownBlock ∧ some k_ ≠ (e8 : Value).ownBlock) (fun _ => False) rfl rfl ?aO ?aR (fun _ _ h => h) (fun _ h => h.elim) ?aF ?aB ?aS ?aL ?_; (case aR => repeat (first | exact (yaf a2.out).2.2 | (with_reducible refine Kd.C_alloc ?_ _) | (with_reducible refine Kd.C_drewN ?_ _) | (with_reducible refine Kd.C_drew ?_))); (case aB => exact (upH HB.out)); (case aF => exact (fun k_ hk => ⟨Kd.fresh' (Kd.R_lt (upR a2.out)) k_ hk, Kd.fresh' (Kd.R_lt (upR a8.out)) k_ hk, Kd.fresh' (Kd.R_lt (upR d6.out)) k_ hk⟩)); (case aO => exact (by (with_reducible repeat (first | apply yac | apply yad | apply yab)); exact yae e5.out (fun _ hk => ⟨hk.1.1.2, ⟨hk.1.2, hk.2⟩⟩))); (case aS => exact (below_size (upH HB.out))); (case aL => have := LMc29.out; omega); intro o5 w35 ho hb hg hat; rw [← Ny133.out] at ho; replace a2 := yaa (Kd.R_after (ok := (fun k_ => some k_ ≠ (u7 : Value).ownBlock ∧ some k_ ≠ (e8 : Value).ownBlock)) (upR a2.out) hg hat); replace a8 := yaa (Kd.R_after (ok := (fun k_ => some k_ ≠ (.slice d8 a3.length d9 : Value).ownBlock ∧ some k_ ≠ (e8 : Value).ownBlock)) (upR a8.out) hg hat); replace d6 := yaa (Kd.R_after (ok := (fun k_ => some k_ ≠ (.slice d8 a3.length d9 : Value).ownBlock ∧ some k_ ≠ (u7 : Value).ownBlock)) (by (with_reducible repeat (first | apply yac | apply yad | apply yab)); exact yae d6.out (fun _ hk => ⟨⟨hk.1.1.2, hk.1.2⟩, hk.2⟩)) hg hat); replace HB := yaa (hb); replace HR126 := yaa ((show Kd.C (yag .u8) w35 A31 y123.length y123 from by rw [Ny123.out, KA31.out]; exact Kd.C_mid (lo := (a6 : Int).toNat) (hi := ((wrap64 (a6 + 64)) : Int).toNat) (c := e3) ((yaf (Kd.R_over' (upR a5.out) (Kd.R_typed (upR e5.out)) (by decide) hg)).2.2) KM31.out KL31.out ((yaf (Kd.R_over' (upR a5.out) (Kd.R_typed (upR e5.out)) (by decide) hg)).2.1))); replace a5 := yaa (Kd.R_over' (upR a5.out) (Kd.R_typed (upR e5.out)) (by decide) hg); have h8 := yaa (ho); clear e5; clear ho hb hg hat))
       (try simp only [Act.put, List.setIfInBounds_toArray, List.set_cons_zero, List.set_cons_succ])
       go_loopg [11, 12] k3 (fun kq v11 v12 w' => ∃ (b3 : List Int) (a7 : Int), v12 = .int .i64 a7 ∧ yah (spec_l1Sum.l3 kq a3 a9 b4 a6 e0 b3 a7 = some r) ∧ yah (kq ≤ k3) ∧ yah (Kd.R (yag .u64) 149 w' w.heap.size (fun k_ => some k_ ≠ (u7 : Value).ownBlock ∧ some k_ ≠ (e8 : Value).ownBlock ∧ some k_ ≠ (v11 : Value).ownBlock) (.slice d8 a3.length d9) a3) ∧ yah (Kd.R (yag .u8) 5 w' w.heap.size (fun _ => True) (.slice f7 a9.length e3) a9) ∧ yah (Kd.R (yag .u64) 149 w' w.heap.size (fun k_ => some k_ ≠ ((.slice d8 a3.length d9) : Value).ownBlock ∧ some k_ ≠ (e8 : Value).ownBlock ∧ some k_ ≠ (v11 : Value).ownBlock) u7 b4) ∧ yah (Kd.R (yag .u64) 149 w' w.heap.size (fun k_ => some k_ ≠ ((.slice d8 a3.length d9) : Value).ownBlock ∧ some k_ ≠ (u7 : Value).ownBlock ∧ some k_ ≠ (v11 : Value).ownBlock) e8 e0) ∧ yah (Kd.R (yag .u64) 149 w' w.heap.size (fun k_ => some k_ ≠ ((.slice d8 a3.length d9) : Value).ownBlock ∧ some k_ ≠ (u7 : Value).ownBlock ∧ some k_ ≠ (e8 : Value).ownBlock) v11 b3) ∧ yah (Below w.heap.size w w'))
       case atStart => exact ⟨(y133), (0), (by first | rfl | (simp; done) | (simp [*]; done)), H', ⟨Nat.le_refl _⟩, ⟨by (with_reducible repeat (first | apply yac | apply yad | apply yab)); exact yae a2.out (fun _ hk => ⟨hk.1.1, ⟨hk.1.2, hk.2⟩⟩)⟩, ⟨by first | exact a5.out | exact upR a5.out⟩, ⟨by (with_reducible repeat (first | apply yac | apply yad | apply yab)); exact yae a8.out (fun _ hk => ⟨hk.1.1, ⟨hk.1.2, hk.2⟩⟩)⟩, ⟨by (with_reducible repeat (first | apply yac | apply yad | apply yab)); exact yae d6.out (fun _ hk => ⟨hk.1.1, ⟨hk.1.2, hk.2⟩⟩)⟩, ⟨by first | exact h8.out | exact upR h8.out⟩, ⟨upH HB.out⟩⟩
       case round =>
        clear H'; (try clear c1); (try clear p1); (try clear q1); (try clear hx1); (try clear c2); (try clear p2); (try clear c3); (try clear q3); (try clear c6); (try clear f6); (try clear p6); (try clear c7); (try clear c7b0); (try clear c8); (try clear c8b0); (try clear c9); (try clear c10); (try clear p10); (try clear q10); (try clear hx10); (try clear p11); (try clear q11); (try clear hx11); (try clear c17); (try clear e2); (try clear c18); (try clear c18b0); (try clear c19); (try clear c19b0); (try clear c21); (try clear c24); (try clear f1); (try clear c25); (try clear g4); (try clear c25b1); (try clear c26); (try clear g5); (try clear g6); (try clear c27); (try clear g7); (try clear g8); (try clear c29); (try clear c31); (try clear q31); (try clear b8); (try clear d1); (try clear p1); (try clear p10); (try clear p107); (try clear p11); (try clear p118); (try clear p2); (try clear p6); (try clear q031); (try clear q1); (try clear q10); (try clear q107); (try clear q11); (try clear q118); (try clear q31); obtain ⟨b3, a7, rfl, HA, HK4, a2, a5, a8, b9, b0, HB⟩ := hrel
        cases gk with
        | zero => exact absurd HA.out (by simp [spec_l1Sum.l3])
        | succ k4 =>
         have H := HA.out; clear HA
         simp only [spec_l1Sum.l3] at H
         by_cases c37 : a7 < 64
         ·
          rw [if_pos c37] at H
          have g9 : decide (a7 < 64) = true := decide_eq_true c37; clear c37
          by_cases c38 : 0 ≤ a7
          rotate_left
          ·
           rw [if_neg c38] at H
           exact absurd H (by simp)
          rw [if_pos c38] at H
          replace c38 := decide_eq_true c38
          by_cases c39 : a7 < (b4.length : Int)
          rotate_left
          ·
           rw [if_neg c39] at H
           exact absurd H (by simp)
          rw [if_pos c39] at H
          replace c39 := decide_eq_true c39
          by_cases c40 : a7 < (e0.length : Int)
          rotate_left
          ·
           rw [if_neg c40] at H
           exact absurd H (by simp)
          rw [if_pos c40] at H
          replace c40 := decide_eq_true c40; obtain ⟨i7, A41, H⟩ := bindA H; (try dsimp only at H); have H' := yaa H; clear H
          try go_wp2
          replace a2 := yaa (yab a2.out); replace a5 := yaa (yab a5.out); replace a8 := yaa (yab a8.out); replace b9 := yaa (yab b9.out); replace b0 := yaa (yab b0.out); replace HB := yaa (below_drew1 HB.out); obtain ⟨o6, o7, i8⟩ := Kd.R_slice a8.out
          (first | subst i8 | (injection i8 with f1_ f2_ f3_; have f4_ := f1_.symm; have f5_ := f3_.symm; clear f1_ f2_ f3_; subst f4_; subst f5_))
          have p136 : 0 ≤ (a7 : Int) := of_decide_eq_true (by assumption); have q136 : a7 < (b4.length : Int) := of_decide_eq_true (by assumption); obtain ⟨ad136, m2, d2⟩ := Kd.at_int (yaf a8.out).2.2 a7 p136 q136
          cases m2
          replace p136 := eq_true p136; replace q136 := eq_true q136; obtain ⟨o8, o9, i9⟩ := Kd.R_slice b9.out
          (first | subst i9 | (injection i9 with f1_ f2_ f3_; have f4_ := f1_.symm; have f5_ := f3_.symm; clear f1_ f2_ f3_; subst f4_; subst f5_))
          have p137 : 0 ≤ (a7 : Int) := of_decide_eq_true (by assumption); have q137 : a7 < (e0.length : Int) := of_decide_eq_true (by assumption); obtain ⟨ad137, m3, d3⟩ := Kd.at_int (yaf b9.out).2.2 a7 p137 q137
          cases m3
          replace p137 := eq_true p137; replace q137 := eq_true q137; obtain ⟨m4, m5, j0⟩ := Kd.R_slice b0.out
          (first | subst j0 | (injection j0 with f1_ f2_ f3_; have f4_ := f1_.symm; have f5_ := f3_.symm; clear f1_ f2_ f3_; subst f4_; subst f5_))
          refine start_ (n := 11) (S := fun w' => w'.cell? (ad136.add (a7).toNat) = some (.int .u64 (rd b4 a7)) ∧ w'.cell? (ad137.add (a7).toNat) = some (.int .u64 (rd e0 a7))) (ds := []) q83_0 (by kernel_rfl) rfl rfl ⟨d2, d3⟩ (fun hHeld => ?_); refine with_tabW spec_l1Sum.tab21 spec_l1Sum.bits21 (fun HT_ HW_ => ?_)
          generalize wr.drew = w42 at a2 a5 a8 b9 b0 HB d2 d3 hHeld ⊢
          refine pz_ 0 64 q83_1 HT_ (by kernel_rfl) ?_
          refine pz_ 1 65 q83_2 HT_ (by kernel_rfl) ?_
          refine pz_ 2 66 q83_3 HT_ (by kernel_rfl) ?_
          refine pz_ 3 67 q83_4 HT_ (by kernel_rfl) ?_
          refine pz_ 5 69 q83_5 HT_ (by kernel_rfl) ?_
          refine pz_ 6 70 q83_6 HT_ (by kernel_rfl) ?_
          refine pz_ 7 71 q83_7 HT_ (by kernel_rfl) ?_
          refine tz_ 4 68 q83_8 HT_ HW_ (by kernel_rfl) hHeld ?_
          refine tz_ 8 72 q83_9 HT_ HW_ (by kernel_rfl) hHeld ?_
          refine one_ (i := 9) (N := some 73) q83_10 rfl rfl (one_of HT_.out (by kernel_rfl)) (by decide) (fun K hK => ?_)
          refine goes_ Tryz.func101 (by kernel_rfl) rfl #[.slice m4 b3.length m5, .int .u64 (rd b4 a7), .int .u64 (rd e0 a7)] (by rfl) rfl rfl (by (try simp only [List.map_toArray, List.map_cons, List.map_nil]); first | done | rfl | (simp only [List.length_drop, List.length_take]; rfl)) ?_
          with_reducible refine (spec_l1Step.calls _ _ b3 (rd b4 a7) (rd e0 a7) i7 _ ?side1 ?side2 A41.out).mono ?_
          (case side1 => repeat (first | exact (yaf b0.out).2.2 | (with_reducible refine Kd.C_alloc ?_ _) | (with_reducible refine Kd.C_drewN ?_ _) | (with_reducible refine Kd.C_drew ?_)))
          (case side2 => exact (yaf b0.out).2.1)
          rintro e w46 ⟨p0, rfl, ho0, hb⟩; have HS0_ := (hb.cell (World.block_lt_of_cell? _ _ (hHeld.1))).trans (hHeld.1); have HS1_ := (hb.cell (World.block_lt_of_cell? _ _ (hHeld.2))).trans (hHeld.2); refine ⟨_, rfl, ?_⟩; replace a5 := yaa (Kd.R_below (upR a5.out) hb); have j1 := yaa (Kd.R_lower (Kd.R_new' (Kd.R_new' (Kd.R_new' (Kd.R_new' ho0 (Kd.R_lt (upR a2.out))) (Kd.R_lt (upR a8.out))) (Kd.R_lt (upR b9.out))) (Kd.R_lt (upR b0.out))) (below_size (upH HB.out))); replace a2 := yaa (yai (upR a2.out) (Kd.R_base ho0) hb); replace a8 := yaa (yai (upR a8.out) (Kd.R_base ho0) hb); replace b9 := yaa (yai (upR b9.out) (Kd.R_base ho0) hb); replace b0 := yaa (yai (upR b0.out) (Kd.R_base ho0) hb); replace HB := yaa (below_step (upH HB.out) hb); (try clear hb); (try clear hb2); (try clear hk); (try clear hi); (try clear ho0)
          refine hK.out _ _ ⟨HS0_, HS1_⟩ (fun hHeld => ?_)
          clear hK K
          refine norm_ (a' := ?_) ?_ ?_
          rotate_left
          ·
           show Act.put _ (some 73) _ = _
           simp only [Act.put, List.setIfInBounds_toArray, List.set_cons_zero, List.set_cons_succ, i64_w, i32_w]
           rfl
          refine pz_ 10 11 q83_11 HT_ (by kernel_rfl) ?_
          refine done_ (done_of HT_.out (by kernel_rfl)) ?_
          try go_wp2
          go_roundg k4
          case measure => have := HK1.out; have := HK2.out; have := HK3.out; have := HK4.out; omega
          case rel => exact ⟨(i7), (wrap64 (a7 + 1)), (by first | rfl | (simp; done) | (simp [*]; done)), H', ⟨by have := HK1.out; have := HK2.out; have := HK3.out; have := HK4.out; omega⟩, ⟨by (with_reducible repeat (first | apply yac | apply yad | apply yab)); exact yae a2.out (fun _ hk => ⟨hk.1.1, ⟨hk.1.2.1, hk.2⟩⟩)⟩, ⟨by first | exact a5.out | exact upR a5.out⟩, ⟨by (with_reducible repeat (first | apply yac | apply yad | apply yab)); exact yae a8.out (fun _ hk => ⟨hk.1.1, ⟨hk.1.2.1, hk.2⟩⟩)⟩, ⟨by (with_reducible repeat (first | apply yac | apply yad | apply yab)); exact yae b9.out (fun _ hk => ⟨hk.1.1, ⟨hk.1.2.1, hk.2⟩⟩)⟩, ⟨by (with_reducible repeat (first | apply yac | apply yad | apply yab)); exact yae j1.out (fun _ hk => ⟨hk.1.1.1.2, ⟨hk.1.1.2, hk.1.2⟩⟩)⟩, ⟨upH HB.out⟩⟩
         rw [if_neg c37] at H
         have g9 : decide (a7 < 64) = false := decide_eq_false c37; clear c37; have H' := yaa H; clear H
         go_wp2
         (try simp only [Act.put, List.setIfInBounds_toArray, List.set_cons_zero, List.set_cons_succ])
         go_loopg [13] k4 (fun kq v13 w' => ∃ (d7 : List Int) (a4 : Int), v13 = .int .i64 a4 ∧ yah (spec_l1Sum.l4 kq d7 a9 b4 a6 b3 a4 = some r) ∧ yah (kq ≤ k4) ∧ yah (Kd.R (yag .u64) 149 w' w.heap.size (fun k_ => some k_ ≠ (u7 : Value).ownBlock ∧ some k_ ≠ (u11 : Value).ownBlock) (.slice d8 a3.length d9) d7) ∧ yah (Kd.R (yag .u8) 5 w' w.heap.size (fun _ => True) (.slice f7 a9.length e3) a9) ∧ yah (Kd.R (yag .u64) 149 w' w.heap.size (fun k_ => some k_ ≠ ((.slice d8 a3.length d9) : Value).ownBlock ∧ some k_ ≠ (u11 : Value).ownBlock) u7 b4) ∧ yah (Kd.R (yag .u64) 149 w' w.heap.size (fun k_ => some k_ ≠ ((.slice d8 a3.length d9) : Value).ownBlock ∧ some k_ ≠ (u7 : Value).ownBlock) u11 b3) ∧ yah (Below w.heap.size w w'))
         case atStart => exact ⟨(a3), (0), (by first | rfl | (simp; done) | (simp [*]; done)), H', ⟨Nat.le_refl _⟩, ⟨by (with_reducible repeat (first | apply yac | apply yad | apply yab)); exact yae a2.out (fun _ hk => ⟨hk.1, hk.2.2⟩)⟩, ⟨by first | exact a5.out | exact upR a5.out⟩, ⟨by (with_reducible repeat (first | apply yac | apply yad | apply yab)); exact yae a8.out (fun _ hk => ⟨hk.1, hk.2.2⟩)⟩, ⟨by (with_reducible repeat (first | apply yac | apply yad | apply yab)); exact yae b0.out (fun _ hk => ⟨hk.1, hk.2.1⟩)⟩, ⟨upH HB.out⟩⟩
         case round =>
          clear H'; (try clear c1); (try clear p1); (try clear q1); (try clear hx1); (try clear c2); (try clear p2); (try clear c3); (try clear q3); (try clear c4); (try clear c6); (try clear f6); (try clear p6); (try clear c7); (try clear c7b0); (try clear c8); (try clear c8b0); (try clear c9); (try clear c10); (try clear p10); (try clear q10); (try clear hx10); (try clear p11); (try clear q11); (try clear hx11); (try clear p13); (try clear q13); (try clear hx13); (try clear c17); (try clear e2); (try clear c18); (try clear c18b0); (try clear c19); (try clear c19b0); (try clear c21); (try clear c24); (try clear f1); (try clear c25); (try clear g4); (try clear c25b1); (try clear c26); (try clear g5); (try clear g6); (try clear c27); (try clear g7); (try clear g8); (try clear c29); (try clear c31); (try clear q31); (try clear c37); (try clear g9); (try clear c38); (try clear c38b0); (try clear c39); (try clear c39b0); (try clear c40); (try clear c40b0); (try clear b8); (try clear d1); (try clear d2); (try clear d3); (try clear p1); (try clear p10); (try clear p107); (try clear p11); (try clear p118); (try clear p136); (try clear p137); (try clear p2); (try clear p6); (try clear q031); (try clear q1); (try clear q10); (try clear q107); (try clear q11); (try clear q118); (try clear q136); (try clear q137); (try clear q3); (try clear q31); obtain ⟨d7, a4, rfl, HA, HK5, a2, a5, a8, b0, HB⟩ := hrel; have hl4_5 := (yaf a2.out).1
          rw [hl4_5] at a2
          (try simp only [hl4_5])
          (try simp only [hl4_5] at a5)
          (try simp only [hl4_5] at a8)
          (try simp only [hl4_5] at b0)
          cases gk with
          | zero => exact absurd HA.out (by simp [spec_l1Sum.l4])
          | succ k5 =>
           have H := HA.out; clear HA
           simp only [spec_l1Sum.l4] at H
           by_cases c47 : a4 < 8
           rotate_left
           ·
            rw [if_neg c47] at H
            have i0 : decide (a4 < 8) = false := decide_eq_false c47; clear c47; have H' := yaa H; clear H
            go_wp2
            (try simp only [← hl4_5])
            go_roundg k5
            case measure => have := HK1.out; have := HK2.out; have := HK3.out; have := HK4.out; have := HK5.out; omega
            case rel => exact ⟨(d7), (wrap64 (a6 + 64)), (by first | rfl | (simp; done) | (simp [*]; done)), H', ⟨by have := HK1.out; have := HK2.out; have := HK3.out; have := HK4.out; have := HK5.out; omega⟩, ⟨by (try simp only [hl4_5]); (with_reducible repeat (first | apply yac | apply yad | apply yab)); exact yae a2.out (fun _ hk => hk.1)⟩, ⟨by (try simp only [hl4_5]); first | exact a5.out | exact upR a5.out⟩, ⟨by (try simp only [hl4_5]); (with_reducible repeat (first | apply yac | apply yad | apply yab)); exact yae a8.out (fun _ hk => hk.1)⟩, ⟨upH HB.out⟩⟩
           rw [if_pos c47] at H
           have i0 : decide (a4 < 8) = true := decide_eq_true c47; clear c47
           by_cases c48 : 0 ≤ a4
           rotate_left
           ·
            rw [if_neg c48] at H
            exact absurd H (by simp)
           rw [if_pos c48] at H
           replace c48 := decide_eq_true c48
           by_cases c49 : a4 < (d7.length : Int)
           rotate_left
           ·
            rw [if_neg c49] at H
            exact absurd H (by simp)
           rw [if_pos c49] at H
           replace c49 := decide_eq_true c49
           by_cases c50 : a4 < (b3.length : Int)
           rotate_left
           ·
            rw [if_neg c50] at H
            exact absurd H (by simp)
           rw [if_pos c50] at H
           replace c50 := decide_eq_true c50; obtain ⟨f8, A51, H⟩ := bindA H; (try dsimp only at H); obtain ⟨y144, hy144⟩ : ∃ y_ : List Int, y_ = (d7.set (a4 : Int).toNat f8) := ⟨_, rfl⟩
           replace H : (spec_l1Sum.l4 k5 y144 a9 b4 a6 b3 (wrap64 (a4 + 1))) = some r := by first | (rw [hy144]; with_reducible exact H) | (have H2_ := (Option.bind_some _ _).symm.trans H; rw [hy144]; with_reducible exact H2_) | (have H2_ := (Option.bind_some _ _).symm.trans H; with_reducible exact H2_) | with_reducible exact H | (rw [hy144]; exact H) | exact H
           have Ny144 := yaa hy144; clear hy144; have H' := yaa H; clear H
           try go_wp2
           replace a2 := yaa (yab a2.out); replace a5 := yaa (yab a5.out); replace a8 := yaa (yab a8.out); replace b0 := yaa (yab b0.out); replace HB := yaa (below_drew1 HB.out); have p141 : 0 ≤ (a4 : Int) := of_decide_eq_true (by assumption); have q141 : a4 < (d7.length : Int) := of_decide_eq_true (by assumption); obtain ⟨ad141, m7, d4⟩ := Kd.at_int (yaf a2.out).2.2 a4 p141 q141
           cases m7
           replace p141 := eq_true p141; replace q141 := eq_true q141; obtain ⟨p3, p4, j5⟩ := Kd.R_slice b0.out
           (first | subst j5 | (injection j5 with f1_ f2_ f3_; have f4_ := f1_.symm; have f5_ := f3_.symm; clear f1_ f2_ f3_; subst f4_; subst f5_))
           have p142 : 0 ≤ (a4 : Int) := of_decide_eq_true (by assumption); have q142 : a4 < (b3.length : Int) := of_decide_eq_true (by assumption); obtain ⟨ad142, m8, e1⟩ := Kd.at_int (yaf b0.out).2.2 a4 p142 q142
           cases m8
           replace p142 := eq_true p142; replace q142 := eq_true q142
           refine start_ (n := 14) (S := fun w' => w'.cell? (ad141.add (a4).toNat) = some (.int .u64 (rd d7 a4)) ∧ w'.cell? (ad142.add (a4).toNat) = some (.int .u64 (rd b3 a4))) (ds := [13]) q83_12 (by kernel_rfl) rfl rfl ⟨d4, e1⟩ (fun hHeld => ?_); refine with_tabW spec_l1Sum.tab25 spec_l1Sum.bits25 (fun HT_ HW_ => ?_)
           generalize wr.drew = w53 at a2 a5 a8 b0 HB d4 e1 hHeld ⊢
           refine pz_ 0 78 q83_13 HT_ (by kernel_rfl) ?_
           refine pz_ 1 79 q83_14 HT_ (by kernel_rfl) ?_
           refine pz_ 2 80 q83_15 HT_ (by kernel_rfl) ?_
           refine pz_ 3 81 q83_16 HT_ (by kernel_rfl) ?_
           refine pz_ 4 82 q83_17 HT_ (by kernel_rfl) ?_
           refine pz_ 6 84 q83_18 HT_ (by kernel_rfl) ?_
           refine pz_ 7 85 q83_19 HT_ (by kernel_rfl) ?_
           refine pz_ 8 86 q83_20 HT_ (by kernel_rfl) ?_
           refine tz_ 5 83 q83_21 HT_ HW_ (by kernel_rfl) hHeld ?_
           refine tz_ 9 87 q83_22 HT_ HW_ (by kernel_rfl) hHeld ?_
           refine pz_ 10 88 q83_23 HT_ (by kernel_rfl) ?_
           refine one_ (i := 11) (N := some 89) q83_24 rfl rfl (one_of HT_.out (by kernel_rfl)) (by decide) (fun K hK => ?_)
           refine goes_ Tryz.func102 (by kernel_rfl) rfl #[.int .u64 (IntKind.u64.wrap ((rd d7 a4) + (rd b3 a4)))] (by rfl) rfl rfl (by (try simp only [List.map_toArray, List.map_cons, List.map_nil]); first | done | rfl | (simp only [List.length_drop, List.length_take]; rfl)) ?_
           with_reducible refine (spec_l1Word.calls (IntKind.u64.wrap ((rd d7 a4) + (rd b3 a4))) f8 _ A51.out).mono ?_
           rintro e w' ⟨rfl, ⟨nd, rfl⟩⟩; refine ⟨_, rfl, ?_⟩; have p52 : 0 ≤ (a4 : Int) := of_decide_eq_true (by assumption); have q52 : (a4 : Int) < ((d7.length : Int) : Int) := of_decide_eq_true (by assumption); obtain ⟨go52, p7, j6, j7, gl52, p8, HG52⟩ := Kd.R_form a2.out (by omega)
           (first | cases j6 | (injection j6 with ea_ en_ ec_; (first | subst ea_ | (injection ea_ with ea_; subst ea_)); subst ec_; clear en_))
           have GB52 := yaa j7; have GG52 := yaa HG52; clear j7 gl52 HG52
           (first | simp only [add_plain] at d4 | skip)
           obtain ⟨i2, hf52_0⟩ := Kd.R_celln 0 a2.out (a4 : Int) p52 q52; replace p52 := eq_true p52; replace q52 := eq_true q52; have HP55 := Kd.R_putn a2.out (a4 : Int) f8
           rw [← Ny144.out] at HP55
           have HQ55 := yaa HP55; clear HP55
           refine hK.out _ _ ⟨hHeld.1, hHeld.2⟩ (fun hHeld => ?_)
           clear hK K
           refine norm_ (a' := ?_) ?_ ?_
           rotate_left
           ·
            show Act.put _ (some 89) _ = _
            simp only [Act.put, List.setIfInBounds_toArray, List.set_cons_zero, List.set_cons_succ, i64_w, i32_w]
            rfl
           refine pz_ 12 90 q83_25 HT_ (by kernel_rfl) ?_
           refine last_ (i := 13) (N := none) q83_26 rfl rfl (one_of HT_.out (by kernel_rfl)) (by decide) (fun K hK => ?_)
           refine skip_ (w1 := ?_) (by rfl) rfl ?_ ?_
           rotate_left
           ·
            go_simp
            rfl
           refine hK.out _ _ ?_
           clear hK K
           refine done_ (done_of HT_.out (by kernel_rfl)) ?_
           try go_wp2
           (try simp only [← hl4_5])
           go_roundg k5
           case measure => have := HK1.out; have := HK2.out; have := HK3.out; have := HK4.out; have := HK5.out; omega
           case rel => exact ⟨(y144), (wrap64 (a4 + 1)), (by first | rfl | (simp; done) | (simp [*]; done)), H', ⟨by have := HK1.out; have := HK2.out; have := HK3.out; have := HK4.out; have := HK5.out; omega⟩, ⟨by (try simp only [hl4_5]); first | exact HQ55.out | exact upR HQ55.out⟩, ⟨by (try simp only [hl4_5]); (with_reducible repeat (first | apply yac | apply yad | apply yab)); exact yae (Kd.R_far (p := ⟨go52, (a4 : Int).toNat, none⟩) (Kd.R_types a5.out GG52.out (by decide)) (fun _ hk => hk.2) (.int .u64 f8)) (fun _ hk => trivial)⟩, ⟨by (try simp only [hl4_5]); (with_reducible repeat (first | apply yac | apply yad | apply yab)); exact yae (Kd.R_far (p := ⟨go52, (a4 : Int).toNat, none⟩) (yae a8.out (fun k_ hk => (⟨hk, fun e_ => hk.1 (by rw [e_]; rfl)⟩ : _ ∧ k_ ≠ go52))) (fun _ hk => hk.2) (.int .u64 f8)) (fun _ hk => ⟨hk.1.1, hk.1.2⟩)⟩, ⟨by (try simp only [hl4_5]); (with_reducible repeat (first | apply yac | apply yad | apply yab)); exact yae (Kd.R_far (p := ⟨go52, (a4 : Int).toNat, none⟩) (yae b0.out (fun k_ hk => (⟨hk, fun e_ => hk.1 (by rw [e_]; rfl)⟩ : _ ∧ k_ ≠ go52))) (fun _ hk => hk.2) (.int .u64 f8)) (fun _ hk => ⟨hk.1.1, hk.1.2⟩)⟩, ⟨by repeat (with_reducible first | exact HB.out | apply below_alloc | apply pw_below_drewN | apply below_drew1 | refine below_set ?_ (Aside0.out ‹_›))⟩⟩
end
section
open Go.Proofs.YtmplnpjdbfedbaaGreatDoorW.PrintWords.Aside0 renaming mk → yaa
mutual
def spec_ShaMac.j0 : Nat → List Int → List Int → Bool → Option (List Int)
 | 0, _, _, _ => none
 | k + 1, x0, x1, x16 => if x16 = true then (some (([] : List Int))) else ((some (([] : List Int) : List Int)).bind fun y104 => (if y104.length + x0.length < 140737488355328 then ((some (y104 ++ x0 : List Int)).bind fun y107 => (if (y107.length : Int) > 64 then ((spec_l1Sum.f k y107).bind fun t110 => (spec_ShaMac.j1 k x1 t110)) else (spec_ShaMac.j1 k x1 y107))) else (none)))
def spec_ShaMac.j1 : Nat → List Int → List Int → Option (List Int)
 | 0, _, _ => none
 | k + 1, x1, x5 => spec_ShaMac.l0 k x1 x5
def spec_ShaMac.l0 : Nat → List Int → List Int → Option (List Int)
 | 0, _, _ => none
 | k + 1, x1, x5 => if (x5.length : Int) < 64 then (if x5.length < 140737488355328 then (spec_ShaMac.l0 k x1 (x5 ++ [0])) else (none)) else (spec_ShaMac.l1 k x1 x5 (([] : List Int)) (([] : List Int)) 0)
def spec_ShaMac.l1 : Nat → List Int → List Int → List Int → List Int → Int → Option (List Int)
 | 0, _, _, _, _, _ => none
 | k + 1, x1, x5, x6, x7, x8 => if x8 < 64 then (if 0 ≤ x8 then (if x8 < (x5.length : Int) then (if x6.length < 140737488355328 then (if x7.length < 140737488355328 then (spec_ShaMac.l1 k x1 x5 (x6 ++ [Go.bits .xor .u8 (rd x5 x8) 54]) (x7 ++ [Go.bits .xor .u8 (rd x5 x8) 92]) (wrap64 (x8 + 1))) else (none)) else (none)) else (none)) else (none)) else (if x6.length + x1.length < 140737488355328 then ((spec_l1Sum.f k (x6 ++ x1)).bind fun t133 => (if x7.length + t133.length < 140737488355328 then ((spec_l1Sum.f k (x7 ++ t133)).bind fun t139 => (some t139)) else (none))) else (none))
end
def spec_ShaMac.f (k : Nat) (l0 : List Int) (l1 : List Int) : Option (List Int) := if (l0.length : Int) > 500 then (spec_ShaMac.j0 k l0 l1 true) else (spec_ShaMac.j0 k l0 l1 (decide ((l1.length : Int) > 500)))
set_option maxHeartbeats 8000000 in
set_option maxRecDepth 100000 in
theorem spec_ShaMac.calls (k : Nat) (A0 : Option Addr) (c0 : Nat) (l0 : List Int) (A1 : Option Addr) (c1 : Nat) (l1 : List Int) (r : List Int) (w : World) (hr0 : Kd.C (Kd.int .u8) w A0 l0.length l0) (hc0 : l0.length ≤ c0) (hr1 : Kd.C (Kd.int .u8) w A1 l1.length l1) (hc1 : l1.length ≤ c1) (h : spec_ShaMac.f k l0 l1 = some r) :
  Calls Tryz.prog 54 #[.slice A0 l0.length c0, .slice A1 l1.length c1] w fun e w' => ∃ v0_ : Value, e = .returned (v0_) ∧ Kd.R (Kd.int .u8) 5 w' w.heap.size (fun _ => True) v0_ r ∧ Below w.heap.size w w' := by
 have HR0 := yaa hr0; have HC0 := yaa hc0; clear hr0 hc0; have HR1 := yaa hr1; have HC1 := yaa hc1; clear hr1 hc1; have HB := yaa (Below.refl w.heap.size w); have H : (if (l0.length : Int) > 500 then (spec_ShaMac.j0 k l0 l1 true) else (spec_ShaMac.j0 k l0 l1 (decide ((l1.length : Int) > 500)))) = some r := h; clear h; have HC3 := yaa H; clear H
 go_enter Tryz.func54, Tryz.ntmps54
 go_upto_region 1 with (fail)
 go_cut [16] (fun v16 wc => ∃ (kq : Nat) (b9 : Bool), v16 = .bool b9 ∧ Aside0 (spec_ShaMac.j0 kq l0 l1 b9 = some r) ∧ Aside0 (kq ≤ k) ∧ Aside0 (Below w.heap.size w wc))
 case first =>
  have H := HC3.out; clear HC3
  by_cases c4 : (l0.length : Int) > 500
  ·
   rw [if_pos c4] at H
   have b3 : decide (500 < (l0.length : Int)) = true := decide_eq_true c4; have c7 : decide (500 < l0.length) = true := decide_eq_true (by omega); clear c4
   (first | rw [b3] | (simp only [i64_w, i32_w]; rw [b3]) | skip)
   have H' := yaa H; clear H
   go_wp2
   go_meet
   case rel => exact ⟨_, (true), (by first | rfl | (simp; done) | (simp [*]; done)), H', ⟨by first | omega | exact Nat.le_refl _⟩, ⟨upH HB.out⟩⟩
  rw [if_neg c4] at H
  have b3 : decide (500 < (l0.length : Int)) = false := decide_eq_false c4; have c7 : decide (500 < l0.length) = false := decide_eq_false (by omega); clear c4
  (first | rw [b3] | (simp only [i64_w, i32_w]; rw [b3]) | skip)
  have H' := yaa H; clear H
  go_wp2
  go_meet
  case rel => exact ⟨_, (decide ((l1.length : Int) > 500)), (by first | rfl | (simp; done) | (simp [*]; done)), H', ⟨by first | omega | exact Nat.le_refl _⟩, ⟨upH HB.out⟩⟩
 case rest =>
  clear HC3; (try clear c1); (try clear p2); (try clear c4); (try clear b3); (try clear c7); obtain ⟨kq, b9, rfl, HA, HJ2, HB⟩ := hcut
  cases kq with
  | zero => exact absurd HA.out (by simp [spec_ShaMac.j0])
  | succ kj2 =>
   have H := HA.out; clear HA
   simp only [spec_ShaMac.j0] at H
   by_cases c5 : b9 = true
   ·
    subst c5
    rw [if_pos rfl] at H
    obtain ⟨y101, hy101⟩ : ∃ y_ : List Int, y_ = (([] : List Int)) := ⟨_, rfl⟩
    replace H : (some y101) = some r := by first | (rw [hy101]; with_reducible exact H) | (have H2_ := (Option.bind_some _ _).symm.trans H; rw [hy101]; with_reducible exact H2_) | (have H2_ := (Option.bind_some _ _).symm.trans H; with_reducible exact H2_) | with_reducible exact H | (rw [hy101]; exact H) | exact H
    have Ny101 := yaa hy101; clear hy101; obtain rfl := Option.some.inj H
    go_wp2_with (first | ((with_reducible refine gd_ 17 rfl ?_); (try (refine gate_guard (by rfl) ?_; dsimp only)); refine Kd.R_lit (Kd.int .u8) _ 5 ?hg (N := 17) ?hd (xs := ([] : List Int)) (inner := []) (ok := fun _ => True) (okp := fun _ => True) ?hr ?hp (fun _ hk => hk) trivial (Below.refl _ _) (Nat.le_refl _) (by simp) ?_; (case hd => rfl); (case hg => rfl); (case hr => first | (go_simp; done) | (go_simp; rfl)); (case hp => exact (Reps.none _ _)); intro g6 w6 ho7 hb hg_ hnew_; clear hg_ hnew_; (first | rw [← Ny101.out] at ho7 | (simp only [Int.reduceToNat] at ho7; rw [← Ny101.out] at ho7)); have d5 := yaa (Kd.R_lower ho7 (below_size (upH HB.out))); replace HB := yaa (below_step (upH HB.out) hb); clear hb ho7))
    go_ret
    exact ⟨_, by first | rfl | (simp [*, errW_none, errW_some] <;> rfl), by first | exact d5.out | exact upR d5.out, upH HB.out⟩
   replace c5 := Bool.eq_false_iff.mpr c5
   subst c5
   rw [if_neg (show ¬ (false = true) by decide)] at H
   obtain ⟨y104, hy104, H⟩ := bindY H; (try dsimp only at H); have Ny104 := yaa hy104; clear hy104
   by_cases c8 : y104.length + l0.length < 140737488355328
   rotate_left
   ·
    rw [if_neg c8] at H
    exact absurd H (by simp)
   rw [if_pos c8] at H
   have LMc8 := yaa c8; clear c8; obtain ⟨y107, hy107⟩ : ∃ y_ : List Int, y_ = (y104 ++ l0) := ⟨_, rfl⟩
   replace H : (if (y107.length : Int) > 64 then ((spec_l1Sum.f kj2 y107).bind fun d0 => (spec_ShaMac.j1 kj2 l1 d0)) else (spec_ShaMac.j1 kj2 l1 y107)) = some r := by first | (rw [hy107]; with_reducible exact H) | (have H2_ := (Option.bind_some _ _).symm.trans H; rw [hy107]; with_reducible exact H2_) | (have H2_ := (Option.bind_some _ _).symm.trans H; with_reducible exact H2_) | with_reducible exact H | (rw [hy107]; exact H) | exact H
   have Ny107 := yaa hy107; clear hy107; have HC9 := yaa H; clear H
   go_upto_if 23 with (first | ((with_reducible refine gd_ 18 rfl ?_); (try (refine gate_guard (by rfl) ?_; dsimp only)); refine Kd.R_lit (Kd.int .u8) _ 5 ?hg (N := 18) ?hd (xs := ([] : List Int)) (inner := []) (ok := fun _ => True) (okp := fun _ => True) ?hr ?hp (fun _ hk => hk) trivial (Below.refl _ _) (Nat.le_refl _) (by simp) ?_; (case hd => rfl); (case hg => rfl); (case hr => first | (go_simp; done) | (go_simp; rfl)); (case hp => exact (Reps.none _ _)); intro f0 w10 c9 hb hg_ hnew_; clear hg_ hnew_; (first | rw [← Ny104.out] at c9 | (simp only [Int.reduceToNat] at c9; rw [← Ny104.out] at c9)); have d6 := yaa (Kd.R_lower c9 (below_size (upH HB.out))); replace HB := yaa (below_step (upH HB.out) hb); clear hb c9) | ((with_reducible refine gate_builtin (b := .append) (xs := #[.tmp 18, .tmp 19]) rfl ?_); (try (refine gate_guard (by rfl) ?_; dsimp only)); at_builtin; refine Kd.R_append_rows (Kd.int .u8) (w0 := w) w.heap.size rfl (.tmp 18) (.tmp 19) 22 5 (.int .u8 0) 1 rfl Tryz.underlying22 info5 rfl (by decide) (by omega) f0 y104 l0 _ _ _ (fun _ => True) (fun _ => False) rfl rfl ?aO ?aR (fun _ _ h => h) (fun _ h => h.elim) ?aF ?aB ?aS ?aL ?_; (case aR => repeat (first | exact (Kd.C_below HR0.out HB.out) | (with_reducible refine Kd.C_alloc ?_ _) | (with_reducible refine Kd.C_drewN ?_ _) | (with_reducible refine Kd.C_drew ?_))); (case aB => exact (upH HB.out)); (case aF => exact (fun _ _ => trivial)); (case aO => exact (upR d6.out)); (case aS => exact (below_size (upH HB.out))); (case aL => have := LMc8.out; omega); intro g7 w12 ho hb hg hat; rw [← Ny107.out] at ho; replace HB := yaa (hb); have a7 := yaa (ho); clear d6; clear ho hb hg hat; obtain ⟨f1, f2, f3⟩ := Kd.R_slice a7.out; subst f3))
   (try simp only [Act.put, List.setIfInBounds_toArray, List.set_cons_zero, List.set_cons_succ])
   go_cut [5] (fun v5 wc => ∃ (kq : Nat) (d1 : List Int), Aside0 (spec_ShaMac.j1 kq l1 d1 = some r) ∧ Aside0 (kq ≤ kj2) ∧ Aside0 (Kd.R (Kd.int .u8) 5 wc w.heap.size (fun _ => True) v5 d1) ∧ Aside0 (Below w.heap.size w wc))
   case first =>
    have H := HC9.out; clear HC9
    by_cases c14 : (y107.length : Int) > 64
    ·
     rw [if_pos c14] at H
     have a8 : decide (64 < (y107.length : Int)) = true := decide_eq_true c14; have c2 : decide (64 < y107.length) = true := decide_eq_true (by omega); clear c14
     (first | rw [a8] | (simp only [i64_w, i32_w]; rw [a8]) | skip)
     obtain ⟨d0, A15, H⟩ := bindA H; (try dsimp only at H); have H' := yaa H; clear H
     go_wp2_with (first | ((with_reducible refine gc_ 83 rfl ?_); refine gl_ (some 25) rfl Tryz.func83 #[.slice f1 y107.length f2] ?_; (with_reducible refine (spec_l1Sum.calls kj2 _ _ y107 d0 _ ?side1 ?side2 A15.out).mono ?_); (case side1 => repeat (first | exact (Kd.R_reads' a7.out).2.2 | (with_reducible refine Kd.C_alloc ?_ _) | (with_reducible refine Kd.C_drewN ?_ _) | (with_reducible refine Kd.C_drew ?_))); (case side2 => exact (Kd.R_reads' a7.out).2.1); rintro e w16 ⟨g8, rfl, ho0, hb⟩; refine ⟨_, rfl, ?_⟩; have e3 := yaa (Kd.R_lower (Kd.R_new' ho0 (Kd.R_lt (upR a7.out))) (below_size (upH HB.out))); replace a7 := yaa (Kd.R_elder' (upR a7.out) (Kd.R_base ho0) hb); replace HB := yaa (below_step (upH HB.out) hb); (try clear hb ho0)))
     go_meet
     case rel => exact ⟨_, (d0), H', ⟨by have := HJ2.out; first | omega | exact Nat.le_refl _⟩, ⟨by (with_reducible repeat (first | apply Kd.R_alloc | apply Kd.R_drewN | apply Kd.R_drew)); exact Kd.R_mono e3.out (fun _ hk => trivial)⟩, ⟨upH HB.out⟩⟩
    rw [if_neg c14] at H
    have a8 : decide (64 < (y107.length : Int)) = false := decide_eq_false c14; have c2 : decide (64 < y107.length) = false := decide_eq_false (by omega); clear c14
    (first | rw [a8] | (simp only [i64_w, i32_w]; rw [a8]) | skip)
    have H' := yaa H; clear H
    go_wp2
    go_meet
    case rel => exact ⟨_, (y107), H', ⟨by have := HJ2.out; first | omega | exact Nat.le_refl _⟩, ⟨by first | exact a7.out | exact upR a7.out⟩, ⟨upH HB.out⟩⟩
   case rest =>
    clear HC9; (try clear c1); (try clear p2); (try clear c4); (try clear b3); (try clear c7); (try clear c5); (try clear c8); (try clear c14); (try clear a8); (try clear c2); (try clear p2); obtain ⟨kq, d1, HA, HJ8, a3, HB⟩ := hcut
    cases kq with
    | zero => exact absurd HA.out (by simp [spec_ShaMac.j1])
    | succ kj8 =>
     have H := HA.out; clear HA
     simp only [spec_ShaMac.j1] at H
     have H' := yaa H; clear H
     go_wp2
     (try simp only [Act.put, List.setIfInBounds_toArray, List.set_cons_zero, List.set_cons_succ])
     go_loopg [5] kj8 (fun kq v5 w' => ∃ (a2 : List Int), Aside0 (spec_ShaMac.l0 kq l1 a2 = some r) ∧ Aside0 (kq ≤ kj8) ∧ Aside0 (Kd.R (Kd.int .u8) 5 w' w.heap.size (fun _ => True) v5 a2) ∧ Aside0 (Below w.heap.size w w'))
     case atStart => exact ⟨(d1), H', ⟨Nat.le_refl _⟩, ⟨by first | exact a3.out | exact upR a3.out⟩, ⟨upH HB.out⟩⟩
     case round =>
      clear H'; (try clear c1); (try clear p2); (try clear c4); (try clear b3); (try clear c7); (try clear c5); (try clear c8); (try clear c14); (try clear a8); (try clear c2); (try clear p2); obtain ⟨a2, HA, HK3, a3, HB⟩ := hrel
      cases gk with
      | zero => exact absurd HA.out (by simp [spec_ShaMac.l0])
      | succ k3 =>
       have H := HA.out; clear HA
       simp only [spec_ShaMac.l0] at H
       by_cases c17 : (a2.length : Int) < 64
       ·
        rw [if_pos c17] at H
        have d7 : decide ((a2.length : Int) < 64) = true := decide_eq_true c17; have d8 : decide (a2.length < 64) = true := decide_eq_true (by omega); clear c17
        by_cases c18 : a2.length < 140737488355328
        ·
         rw [if_pos c18] at H
         have LMc18 := yaa c18; clear c18; obtain ⟨y113, hy113⟩ : ∃ y_ : List Int, y_ = (a2 ++ [0]) := ⟨_, rfl⟩
         replace H : (spec_ShaMac.l0 k3 l1 y113) = some r := by first | (rw [hy113]; with_reducible exact H) | (have H2_ := (Option.bind_some _ _).symm.trans H; rw [hy113]; with_reducible exact H2_) | (have H2_ := (Option.bind_some _ _).symm.trans H; with_reducible exact H2_) | with_reducible exact H | (rw [hy113]; exact H) | exact H
         have Ny113 := yaa hy113; clear hy113; have H' := yaa H; clear H; obtain ⟨f4, f5, f6⟩ := Kd.R_slice a3.out; subst f6
         go_wp2_with (first | ((with_reducible refine gate_builtin (b := .append) (xs := #[.tmp 29, .tmp 30]) rfl ?_); (try (refine gate_guard (by rfl) ?_; dsimp only)); at_builtin; refine Kd.R_append (Kd.int .u8) (w0 := w) w.heap.size rfl (.tmp 29) (.tmp 30) 22 5 (.int .u8 0) 1 rfl Tryz.underlying22 info5 rfl (by decide) (by omega) (.slice f4 a2.length f5) a2 0 [.int .u8 0] (fun _ => True) (fun _ => False) rfl rfl ?aP (fun _ hk => hk.elim) ?aF ?aO ?aB ?aS ?aL ?_; (case aP => exact rfl); (case aB => exact (upH HB.out)); (case aF => exact (fun _ _ => trivial)); (case aO => exact (upR a3.out)); (case aS => exact (below_size (upH HB.out))); (case aL => have := LMc18.out; omega); intro g9 w20 ho hb hg hat; rw [← Ny113.out] at ho; replace HB := yaa (hb); have d9 := yaa (ho); clear a3; clear ho hb hg hat))
         go_roundg k3
         case measure => have := HJ2.out; have := HJ8.out; have := HK3.out; omega
         case rel => exact ⟨(y113), H', ⟨by have := HJ2.out; have := HJ8.out; have := HK3.out; omega⟩, ⟨by first | exact d9.out | exact upR d9.out⟩, ⟨upH HB.out⟩⟩
        rw [if_neg c18] at H
        exact absurd H (by simp)
       rw [if_neg c17] at H
       have d7 : decide ((a2.length : Int) < 64) = false := decide_eq_false c17; have d8 : decide (a2.length < 64) = false := decide_eq_false (by omega); clear c17; obtain ⟨y116, hy116⟩ : ∃ y_ : List Int, y_ = (([] : List Int)) := ⟨_, rfl⟩
       replace H : (spec_ShaMac.l1 k3 l1 a2 y116 (([] : List Int)) 0) = some r := by first | (rw [hy116]; with_reducible exact H) | (have H2_ := (Option.bind_some _ _).symm.trans H; rw [hy116]; with_reducible exact H2_) | (have H2_ := (Option.bind_some _ _).symm.trans H; with_reducible exact H2_) | with_reducible exact H | (rw [hy116]; exact H) | exact H
       have Ny116 := yaa hy116; clear hy116; obtain ⟨y119, hy119⟩ : ∃ y_ : List Int, y_ = (([] : List Int)) := ⟨_, rfl⟩
       replace H : (spec_ShaMac.l1 k3 l1 a2 y116 y119 0) = some r := by first | (rw [hy119]; with_reducible exact H) | (have H2_ := (Option.bind_some _ _).symm.trans H; rw [hy119]; with_reducible exact H2_) | (have H2_ := (Option.bind_some _ _).symm.trans H; with_reducible exact H2_) | with_reducible exact H | (rw [hy119]; exact H) | exact H
       have Ny119 := yaa hy119; clear hy119; have H' := yaa H; clear H; obtain ⟨b5, b0, f7⟩ := Kd.R_slice a3.out; subst f7
       go_wp2_with (first | ((with_reducible refine gd_ 32 rfl ?_); (try (refine gate_guard (by rfl) ?_; dsimp only)); refine Kd.R_lit (Kd.int .u8) _ 5 ?hg (N := 32) ?hd (xs := ([] : List Int)) (inner := []) (ok := fun _ => True) (okp := fun _ => True) ?hr ?hp (fun _ hk => hk) trivial (Below.refl _ _) (Nat.le_refl _) (by simp) ?_; (case hd => rfl); (case hg => rfl); (case hr => first | (go_simp; done) | (go_simp; rfl)); (case hp => exact (Reps.none _ _)); intro h0 w22 c6 hb hg_ hnew_; clear hg_ hnew_; (first | rw [← Ny116.out] at c6 | (simp only [Int.reduceToNat] at c6; rw [← Ny116.out] at c6)); have c3 := yaa (Kd.R_lower (Kd.R_new' c6 (Kd.R_lt (upR a3.out))) (below_size (upH HB.out))); replace a3 := yaa (Kd.R_elder' (upR a3.out) (Kd.R_base c6) hb); replace HB := yaa (below_step (upH HB.out) hb); clear hb c6) | ((with_reducible refine gd_ 33 rfl ?_); (try (refine gate_guard (by rfl) ?_; dsimp only)); refine Kd.R_lit (Kd.int .u8) _ 5 ?hg (N := 33) ?hd (xs := ([] : List Int)) (inner := []) (ok := fun _ => True) (okp := fun _ => True) ?hr ?hp (fun _ hk => hk) trivial (Below.refl _ _) (Nat.le_refl _) (by simp) ?_; (case hd => rfl); (case hg => rfl); (case hr => first | (go_simp; done) | (go_simp; rfl)); (case hp => exact (Reps.none _ _)); intro h1 w24 b7 hb hg_ hnew_; clear hg_ hnew_; (first | rw [← Ny119.out] at b7 | (simp only [Int.reduceToNat] at b7; rw [← Ny119.out] at b7)); have e4 := yaa (Kd.R_lower (Kd.R_new' (Kd.R_new' b7 (Kd.R_lt (upR a3.out))) (Kd.R_lt (upR c3.out))) (below_size (upH HB.out))); replace a3 := yaa (Kd.R_elder' (upR a3.out) (Kd.R_base b7) hb); replace c3 := yaa (Kd.R_elder' (upR c3.out) (Kd.R_base b7) hb); replace HB := yaa (below_step (upH HB.out) hb); clear hb b7))
       (try simp only [Act.put, List.setIfInBounds_toArray, List.set_cons_zero, List.set_cons_succ])
       go_loopg [6, 7, 8] k3 (fun kq v6 v7 v8 w' => ∃ (b4 : List Int) (b1 : List Int) (a4 : Int), v8 = .int .i64 a4 ∧ Aside0 (spec_ShaMac.l1 kq l1 a2 b4 b1 a4 = some r) ∧ Aside0 (kq ≤ k3) ∧ Aside0 (Kd.R (Kd.int .u8) 5 w' w.heap.size (fun k_ => some k_ ≠ (v6 : Value).ownBlock ∧ some k_ ≠ (v7 : Value).ownBlock) (.slice b5 a2.length b0) a2) ∧ Aside0 (Kd.R (Kd.int .u8) 5 w' w.heap.size (fun k_ => some k_ ≠ ((.slice b5 a2.length b0) : Value).ownBlock ∧ some k_ ≠ (v7 : Value).ownBlock) v6 b4) ∧ Aside0 (Kd.R (Kd.int .u8) 5 w' w.heap.size (fun k_ => some k_ ≠ ((.slice b5 a2.length b0) : Value).ownBlock ∧ some k_ ≠ (v6 : Value).ownBlock) v7 b1) ∧ Aside0 (Below w.heap.size w w'))
       case atStart => exact ⟨(y116), (y119), (0), (by first | rfl | (simp; done) | (simp [*]; done)), H', ⟨Nat.le_refl _⟩, ⟨by (with_reducible repeat (first | apply Kd.R_alloc | apply Kd.R_drewN | apply Kd.R_drew)); exact Kd.R_mono a3.out (fun _ hk => ⟨hk.1.2, hk.2⟩)⟩, ⟨by (with_reducible repeat (first | apply Kd.R_alloc | apply Kd.R_drewN | apply Kd.R_drew)); exact Kd.R_mono c3.out (fun _ hk => ⟨hk.1.2, hk.2⟩)⟩, ⟨by (with_reducible repeat (first | apply Kd.R_alloc | apply Kd.R_drewN | apply Kd.R_drew)); exact Kd.R_mono e4.out (fun _ hk => ⟨hk.1.2, hk.2⟩)⟩, ⟨upH HB.out⟩⟩
       case round =>
        clear H'; (try clear c1); (try clear p2); (try clear c4); (try clear b3); (try clear c7); (try clear c5); (try clear c8); (try clear c14); (try clear a8); (try clear c2); (try clear c17); (try clear d7); (try clear d8); (try clear c18); (try clear p2); obtain ⟨b4, b1, a4, rfl, HA, HK4, a3, d2, a6, HB⟩ := hrel
        cases gk with
        | zero => exact absurd HA.out (by simp [spec_ShaMac.l1])
        | succ k4 =>
         have H := HA.out; clear HA
         simp only [spec_ShaMac.l1] at H
         by_cases c26 : a4 < 64
         ·
          rw [if_pos c26] at H
          have e5 : decide (a4 < 64) = true := decide_eq_true c26; clear c26
          by_cases c27 : 0 ≤ a4
          rotate_left
          ·
           rw [if_neg c27] at H
           exact absurd H (by simp)
          rw [if_pos c27] at H
          replace c27 := decide_eq_true c27
          by_cases c28 : a4 < (a2.length : Int)
          ·
           rw [if_pos c28] at H
           replace c28 := decide_eq_true c28
           by_cases c29 : b4.length < 140737488355328
           ·
            rw [if_pos c29] at H
            have LMc29 := yaa c29; clear c29; obtain ⟨y123, hy123⟩ : ∃ y_ : List Int, y_ = (b4 ++ [Go.bits .xor .u8 (rd a2 a4) 54]) := ⟨_, rfl⟩
            replace H : (if b1.length < 140737488355328 then (spec_ShaMac.l1 k4 l1 a2 y123 (b1 ++ [Go.bits .xor .u8 (rd a2 a4) 92]) (wrap64 (a4 + 1))) else (none)) = some r := by first | (rw [hy123]; with_reducible exact H) | (have H2_ := (Option.bind_some _ _).symm.trans H; rw [hy123]; with_reducible exact H2_) | (have H2_ := (Option.bind_some _ _).symm.trans H; with_reducible exact H2_) | with_reducible exact H | (rw [hy123]; exact H) | exact H
            have Ny123 := yaa hy123; clear hy123
            by_cases c30 : b1.length < 140737488355328
            ·
             rw [if_pos c30] at H
             have LMc30 := yaa c30; clear c30; obtain ⟨y127, hy127⟩ : ∃ y_ : List Int, y_ = (b1 ++ [Go.bits .xor .u8 (rd a2 a4) 92]) := ⟨_, rfl⟩
             replace H : (spec_ShaMac.l1 k4 l1 a2 y123 y127 (wrap64 (a4 + 1))) = some r := by first | (rw [hy127]; with_reducible exact H) | (have H2_ := (Option.bind_some _ _).symm.trans H; rw [hy127]; with_reducible exact H2_) | (have H2_ := (Option.bind_some _ _).symm.trans H; with_reducible exact H2_) | with_reducible exact H | (rw [hy127]; exact H) | exact H
             have Ny127 := yaa hy127; clear hy127; have H' := yaa H; clear H; have p122 : 0 ≤ (a4 : Int) := of_decide_eq_true (by assumption); have q122 : a4 < (a2.length : Int) := of_decide_eq_true (by assumption); obtain ⟨ad122, f8, e8⟩ := Kd.at_int (Kd.R_reads' a3.out).2.2 a4 p122 q122
             cases f8
             replace p122 := eq_true p122; replace q122 := eq_true q122
             go_wp2_with (first | ((with_reducible refine gate_builtin (b := .append) (xs := #[.tmp 38, .tmp 44]) rfl ?_); (try (refine gate_guard (by rfl) ?_; dsimp only)); at_builtin; refine Kd.R_append (Kd.int .u8) (w0 := w) w.heap.size rfl (.tmp 38) (.tmp 44) 22 5 (.int .u8 0) 1 rfl Tryz.underlying22 info5 rfl (by decide) (by omega) u6 b4 (Go.bits .xor .u8 (rd a2 a4) 54) [.int .u8 (Go.bits .xor .u8 (rd a2 a4) 54)] (fun k_ => some k_ ≠ (.slice (some ad122) a2.length b0 : Value).ownBlock ∧ some k_ ≠ (u7 : Value).ownBlock) (fun _ => False) rfl rfl ?aP (fun _ hk => hk.elim) ?aF ?aO ?aB ?aS ?aL ?_; (case aP => exact rfl); (case aB => exact (upH HB.out)); (case aF => exact (fun k_ hk => ⟨Kd.fresh' (Kd.R_lt (upR a3.out)) k_ hk, Kd.fresh' (Kd.R_lt (upR a6.out)) k_ hk⟩)); (case aO => exact (upR d2.out)); (case aS => exact (below_size (upH HB.out))); (case aL => have := LMc29.out; omega); intro e6 w31 ho hb hg hat; rw [← Ny123.out] at ho; replace a3 := yaa (Kd.R_after (ok := (fun k_ => some k_ ≠ (u7 : Value).ownBlock)) (by (with_reducible repeat (first | apply Kd.R_alloc | apply Kd.R_drewN | apply Kd.R_drew)); exact Kd.R_mono a3.out (fun _ hk => ⟨hk.2, hk.1⟩)) hg hat); replace a6 := yaa (Kd.R_after (ok := (fun k_ => some k_ ≠ (.slice (some ad122) a2.length b0 : Value).ownBlock)) (upR a6.out) hg hat); replace HB := yaa (hb); have b6 := yaa (ho); clear d2; clear ho hb hg hat; have p126 : 0 ≤ (a4 : Int) := of_decide_eq_true (by assumption); have q126 : a4 < (a2.length : Int) := of_decide_eq_true (by assumption); obtain ⟨ad126, f9, e9⟩ := Kd.at_int (Kd.R_reads' a3.out).2.2 a4 p126 q126; obtain rfl : ad122 = ad126 := (by injection f9); replace p126 := eq_true p126; replace q126 := eq_true q126) | ((with_reducible refine gate_builtin (b := .append) (xs := #[.tmp 46, .tmp 52]) rfl ?_); (try (refine gate_guard (by rfl) ?_; dsimp only)); at_builtin; refine Kd.R_append (Kd.int .u8) (w0 := w) w.heap.size rfl (.tmp 46) (.tmp 52) 22 5 (.int .u8 0) 1 rfl Tryz.underlying22 info5 rfl (by decide) (by omega) u7 b1 (Go.bits .xor .u8 (rd a2 a4) 92) [.int .u8 (Go.bits .xor .u8 (rd a2 a4) 92)] (fun k_ => some k_ ≠ (.slice (some ad122) a2.length b0 : Value).ownBlock ∧ some k_ ≠ (e6 : Value).ownBlock) (fun _ => False) rfl rfl ?aP (fun _ hk => hk.elim) ?aF ?aO ?aB ?aS ?aL ?_; (case aP => exact rfl); (case aB => exact (upH HB.out)); (case aF => exact (fun k_ hk => ⟨Kd.fresh' (Kd.R_lt (upR a3.out)) k_ hk, Kd.fresh' (Kd.R_lt (upR b6.out)) k_ hk⟩)); (case aO => exact (upR a6.out)); (case aS => exact (below_size (upH HB.out))); (case aL => have := LMc30.out; omega); intro h2 w32 ho hb hg hat; rw [← Ny127.out] at ho; replace a3 := yaa (Kd.R_after (ok := (fun k_ => some k_ ≠ (e6 : Value).ownBlock)) (by (with_reducible repeat (first | apply Kd.R_alloc | apply Kd.R_drewN | apply Kd.R_drew)); exact Kd.R_mono a3.out (fun _ hk => ⟨hk.2, hk.1⟩)) hg hat); replace b6 := yaa (Kd.R_after (ok := (fun k_ => some k_ ≠ (.slice (some ad122) a2.length b0 : Value).ownBlock)) (upR b6.out) hg hat); replace HB := yaa (hb); have e0 := yaa (ho); clear a6; clear ho hb hg hat))
             go_roundg k4
             case measure => have := HJ2.out; have := HJ8.out; have := HK3.out; have := HK4.out; omega
             case rel => exact ⟨(y123), (y127), (wrap64 (a4 + 1)), (by first | rfl | (simp; done) | (simp [*]; done)), H', ⟨by have := HJ2.out; have := HJ8.out; have := HK3.out; have := HK4.out; omega⟩, ⟨by first | exact a3.out | exact upR a3.out⟩, ⟨by first | exact b6.out | exact upR b6.out⟩, ⟨by first | exact e0.out | exact upR e0.out⟩, ⟨upH HB.out⟩⟩
            rw [if_neg c30] at H
            exact absurd H (by simp)
           rw [if_neg c29] at H
           exact absurd H (by simp)
          rw [if_neg c28] at H
          exact absurd H (by simp)
         rw [if_neg c26] at H
         have e5 : decide (a4 < 64) = false := decide_eq_false c26; clear c26
         by_cases c33 : b4.length + l1.length < 140737488355328
         ·
          rw [if_pos c33] at H
          have LMc33 := yaa c33; clear c33; obtain ⟨y130, hy130⟩ : ∃ y_ : List Int, y_ = (b4 ++ l1) := ⟨_, rfl⟩
          conv at H => enter [1, 1, 2]; rw [← hy130]
          have Ny130 := yaa hy130; clear hy130; obtain ⟨b8, A34, H⟩ := bindA H; (try dsimp only at H)
          by_cases c35 : b1.length + b8.length < 140737488355328
          ·
           rw [if_pos c35] at H
           have LMc35 := yaa c35; clear c35; obtain ⟨y136, hy136⟩ : ∃ y_ : List Int, y_ = (b1 ++ b8) := ⟨_, rfl⟩
           conv at H => enter [1, 1, 2]; rw [← hy136]
           have Ny136 := yaa hy136; clear hy136; obtain ⟨g0, A36, H⟩ := bindA H; (try dsimp only at H); obtain rfl := Option.some.inj H
           go_wp2_with (first | ((with_reducible refine gate_builtin (b := .append) (xs := #[.tmp 55, .tmp 56]) rfl ?_); (try (refine gate_guard (by rfl) ?_; dsimp only)); at_builtin; refine Kd.R_append_rows (Kd.int .u8) (w0 := w) w.heap.size rfl (.tmp 55) (.tmp 56) 22 5 (.int .u8 0) 1 rfl Tryz.underlying22 info5 rfl (by decide) (by omega) u6 b4 l1 _ _ _ (fun k_ => some k_ ≠ (.slice b5 a2.length b0 : Value).ownBlock ∧ some k_ ≠ (u7 : Value).ownBlock) (fun _ => False) rfl rfl ?aO ?aR (fun _ _ h => h) (fun _ h => h.elim) ?aF ?aB ?aS ?aL ?_; (case aR => repeat (first | exact (Kd.C_below HR1.out HB.out) | (with_reducible refine Kd.C_alloc ?_ _) | (with_reducible refine Kd.C_drewN ?_ _) | (with_reducible refine Kd.C_drew ?_))); (case aB => exact (upH HB.out)); (case aF => exact (fun k_ hk => ⟨Kd.fresh' (Kd.R_lt (upR a3.out)) k_ hk, Kd.fresh' (Kd.R_lt (upR a6.out)) k_ hk⟩)); (case aO => exact (upR d2.out)); (case aS => exact (below_size (upH HB.out))); (case aL => have := LMc33.out; omega); intro h3 w37 ho hb hg hat; rw [← Ny130.out] at ho; replace a3 := yaa (Kd.R_after (ok := (fun k_ => some k_ ≠ (u7 : Value).ownBlock)) (by (with_reducible repeat (first | apply Kd.R_alloc | apply Kd.R_drewN | apply Kd.R_drew)); exact Kd.R_mono a3.out (fun _ hk => ⟨hk.2, hk.1⟩)) hg hat); replace a6 := yaa (Kd.R_after (ok := (fun k_ => some k_ ≠ (.slice b5 a2.length b0 : Value).ownBlock)) (upR a6.out) hg hat); replace HB := yaa (hb); have a5 := yaa (ho); clear d2; clear ho hb hg hat; obtain ⟨d3, d4, g1⟩ := Kd.R_slice a5.out; subst g1) | ((with_reducible refine gc_ 83 rfl ?_); refine gl_ (some 58) rfl Tryz.func83 #[.slice d3 y130.length d4] ?_; (with_reducible refine (spec_l1Sum.calls k4 _ _ y130 b8 _ ?side1 ?side2 A34.out).mono ?_); (case side1 => repeat (first | exact (Kd.R_reads' a5.out).2.2 | (with_reducible refine Kd.C_alloc ?_ _) | (with_reducible refine Kd.C_drewN ?_ _) | (with_reducible refine Kd.C_drew ?_))); (case side2 => exact (Kd.R_reads' a5.out).2.1); rintro e w39 ⟨h4, rfl, ho0, hb⟩; refine ⟨_, rfl, ?_⟩; have a9 := yaa (Kd.R_lower (Kd.R_new' (Kd.R_new' (Kd.R_new' ho0 (Kd.R_lt (upR a3.out))) (Kd.R_lt (upR a6.out))) (Kd.R_lt (upR a5.out))) (below_size (upH HB.out))); replace a3 := yaa (Kd.R_elder' (upR a3.out) (Kd.R_base ho0) hb); replace a6 := yaa (Kd.R_elder' (upR a6.out) (Kd.R_base ho0) hb); replace a5 := yaa (Kd.R_elder' (upR a5.out) (Kd.R_base ho0) hb); replace HB := yaa (below_step (upH HB.out) hb); (try clear hb ho0); obtain ⟨e1, e2, g2⟩ := Kd.R_slice a9.out; subst g2) | ((with_reducible refine gate_builtin (b := .append) (xs := #[.tmp 54, .tmp 58]) rfl ?_); (try (refine gate_guard (by rfl) ?_; dsimp only)); at_builtin; refine Kd.R_append_rows (Kd.int .u8) (w0 := w) w.heap.size rfl (.tmp 54) (.tmp 58) 22 5 (.int .u8 0) 1 rfl Tryz.underlying22 info5 rfl (by decide) (by omega) u7 b1 b8 _ _ _ (fun k_ => some k_ ≠ (.slice b5 a2.length b0 : Value).ownBlock ∧ some k_ ≠ (.slice d3 y130.length d4 : Value).ownBlock ∧ some k_ ≠ (.slice e1 b8.length e2 : Value).ownBlock) (fun _ => False) rfl rfl ?aO ?aR (fun _ _ h => h) (fun _ h => h.elim) ?aF ?aB ?aS ?aL ?_; (case aR => repeat (first | exact (Kd.R_reads' a9.out).2.2 | (with_reducible refine Kd.C_alloc ?_ _) | (with_reducible refine Kd.C_drewN ?_ _) | (with_reducible refine Kd.C_drew ?_))); (case aB => exact (upH HB.out)); (case aF => exact (fun k_ hk => ⟨Kd.fresh' (Kd.R_lt (upR a3.out)) k_ hk, Kd.fresh' (Kd.R_lt (upR a5.out)) k_ hk, Kd.fresh' (Kd.R_lt (upR a9.out)) k_ hk⟩)); (case aO => exact (by (with_reducible repeat (first | apply Kd.R_alloc | apply Kd.R_drewN | apply Kd.R_drew)); exact Kd.R_mono a6.out (fun _ hk => ⟨hk.1.1, ⟨hk.1.2, hk.2⟩⟩))); (case aS => exact (below_size (upH HB.out))); (case aL => have := LMc35.out; omega); intro h5 w40 ho hb hg hat; rw [← Ny136.out] at ho; replace a3 := yaa (Kd.R_after (ok := (fun k_ => some k_ ≠ (.slice d3 y130.length d4 : Value).ownBlock ∧ some k_ ≠ (.slice e1 b8.length e2 : Value).ownBlock)) (by (with_reducible repeat (first | apply Kd.R_alloc | apply Kd.R_drewN | apply Kd.R_drew)); exact Kd.R_mono a3.out (fun _ hk => ⟨⟨hk.1.2, hk.2⟩, hk.1.1⟩)) hg hat); replace a5 := yaa (Kd.R_after (ok := (fun k_ => some k_ ≠ (.slice b5 a2.length b0 : Value).ownBlock ∧ some k_ ≠ (.slice e1 b8.length e2 : Value).ownBlock)) (by (with_reducible repeat (first | apply Kd.R_alloc | apply Kd.R_drewN | apply Kd.R_drew)); exact Kd.R_mono a5.out (fun _ hk => ⟨⟨hk.1.1, hk.2⟩, hk.1.2⟩)) hg hat); replace a9 := yaa (Kd.R_after (ok := (fun k_ => some k_ ≠ (.slice b5 a2.length b0 : Value).ownBlock ∧ some k_ ≠ (.slice d3 y130.length d4 : Value).ownBlock)) (by (with_reducible repeat (first | apply Kd.R_alloc | apply Kd.R_drewN | apply Kd.R_drew)); exact Kd.R_mono a9.out (fun _ hk => ⟨⟨hk.1.1.2, hk.2⟩, hk.1.2⟩)) hg hat); replace HB := yaa (hb); have b2 := yaa (ho); clear a6; clear ho hb hg hat; obtain ⟨g3, g4, g5⟩ := Kd.R_slice b2.out; subst g5) | ((with_reducible refine gc_ 83 rfl ?_); refine gl_ (some 60) rfl Tryz.func83 #[.slice g3 y136.length g4] ?_; (with_reducible refine (spec_l1Sum.calls k4 _ _ y136 g0 _ ?side1 ?side2 A36.out).mono ?_); (case side1 => repeat (first | exact (Kd.R_reads' b2.out).2.2 | (with_reducible refine Kd.C_alloc ?_ _) | (with_reducible refine Kd.C_drewN ?_ _) | (with_reducible refine Kd.C_drew ?_))); (case side2 => exact (Kd.R_reads' b2.out).2.1); rintro e w43 ⟨h6, rfl, ho0, hb⟩; refine ⟨_, rfl, ?_⟩; have e7 := yaa (Kd.R_lower (Kd.R_new' (Kd.R_new' (Kd.R_new' (Kd.R_new' ho0 (Kd.R_lt (upR a3.out))) (Kd.R_lt (upR a5.out))) (Kd.R_lt (upR a9.out))) (Kd.R_lt (upR b2.out))) (below_size (upH HB.out))); replace a3 := yaa (Kd.R_elder' (upR a3.out) (Kd.R_base ho0) hb); replace a5 := yaa (Kd.R_elder' (upR a5.out) (Kd.R_base ho0) hb); replace a9 := yaa (Kd.R_elder' (upR a9.out) (Kd.R_base ho0) hb); replace b2 := yaa (Kd.R_elder' (upR b2.out) (Kd.R_base ho0) hb); replace HB := yaa (below_step (upH HB.out) hb); (try clear hb ho0)))
           go_ret
           exact ⟨_, by first | rfl | (simp [*, errW_none, errW_some] <;> rfl), by (with_reducible repeat (first | apply Kd.R_alloc | apply Kd.R_drewN | apply Kd.R_drew)); exact Kd.R_mono e7.out (fun _ hk => trivial), upH HB.out⟩
          rw [if_neg c35] at H
          exact absurd H (by simp)
         rw [if_neg c33] at H
         exact absurd H (by simp)
end
section
def impl_PixOk.f (a0_0 : Int) (a0_1 : Int) (a0_2 : Int) (a0_3 : Int) : Option (Bool) := (impl_partOk.f a0_0).bind fun t102 => (if t102 = true then ((impl_partOk.f a0_1).bind fun t103 => (if t103 = true then ((impl_partOk.f a0_2).bind fun t104 => (if t104 = true then ((impl_partOk.f a0_3).bind fun t105 => (some t105)) else (some false))) else (some false))) else (some false))
set_option maxHeartbeats 8000000 in
set_option maxRecDepth 100000 in
theorem impl_PixOk.calls (a0_0 : Int) (a0_1 : Int) (a0_2 : Int) (a0_3 : Int) (r : Bool) (w : World) (h : impl_PixOk.f a0_0 a0_1 a0_2 a0_3 = some r) :
  Calls Tryz.prog 24 #[.agg #[.int .i64 a0_0, .int .i64 a0_1, .int .i64 a0_2, .int .i64 a0_3]] w fun e w' => e = .returned (.bool r) ∧ Below w.heap.size w w' := by
 have hu47 := Tryz.underlying47; have HB := Aside0.mk (Below.refl w.heap.size w); have H : ((impl_partOk.f a0_0).bind fun a4 => (if a4 = true then ((impl_partOk.f a0_1).bind fun a5 => (if a5 = true then ((impl_partOk.f a0_2).bind fun a6 => (if a6 = true then ((impl_partOk.f a0_3).bind fun a7 => (some a7)) else (some false))) else (some false))) else (some false))) = some r := h; clear h; obtain ⟨a4, A2, H⟩ := bindA H; (try dsimp only at H)
 by_cases c3 : a4 = true
 rotate_left
 ·
  replace c3 := Bool.eq_false_iff.mpr c3
  subst c3
  rw [if_neg (show ¬ (false = true) by decide)] at H
  obtain rfl := Option.some.inj H
  go_enter Tryz.func24, Tryz.ntmps24
  go_wp2_with (first | ((with_reducible refine gd_ 1 rfl ?_); refine bx_ 1 rfl #[.int .i64 a0_0, .int .i64 a0_1, .int .i64 a0_2, .int .i64 a0_3] 47 ?_; intro a1 hg w15 hbox hb; have a0 := Aside0.mk (hbox); have a2 := Aside0.mk ((by rw [hg]; exact (below_size (upH HB.out)) : w.heap.size ≤ a1)); replace HB := Aside0.mk (below_step (upH HB.out) hb); have a3 := a2; clear hb hbox hg; obtain ⟨d7, d8, d9, e0⟩ := cc4_ a0.out; obtain ⟨e1, e2, e3⟩ := cf3_ a0.out; have e4 := blk_frozen a0.out 3) | ((with_reducible refine gc_ 55 rfl ?_); refine gl_ (some 5) rfl Tryz.func55 #[.int .i64 a0_0] ?_; (with_reducible refine (impl_partOk.calls a0_0 false _ A2.out).mono ?_); rintro e w' ⟨rfl, ⟨nd, rfl⟩⟩; refine ⟨_, rfl, ?_⟩))
  go_ret
  exact ⟨by first | rfl | (simp [*, errW_none, errW_some] <;> rfl), by repeat (with_reducible first | exact HB.out | apply below_alloc | apply pw_below_drewN | apply below_drew1 | refine below_set ?_ (Aside0.out ‹_›))⟩
 subst c3
 rw [if_pos rfl] at H
 obtain ⟨a5, A4, H⟩ := bindA H; (try dsimp only at H)
 by_cases c5 : a5 = true
 ·
  subst c5
  rw [if_pos rfl] at H
  obtain ⟨a6, A6, H⟩ := bindA H; (try dsimp only at H)
  by_cases c7 : a6 = true
  ·
   subst c7
   rw [if_pos rfl] at H
   obtain ⟨a7, A8, H⟩ := bindA H; (try dsimp only at H); obtain rfl := Option.some.inj H
   go_enter Tryz.func24, Tryz.ntmps24
   go_wp2_with (first | ((with_reducible refine gd_ 1 rfl ?_); refine bx_ 1 rfl #[.int .i64 a0_0, .int .i64 a0_1, .int .i64 a0_2, .int .i64 a0_3] 47 ?_; intro a1 hg w9 hbox hb; have a0 := Aside0.mk (hbox); have a2 := Aside0.mk ((by rw [hg]; exact (below_size (upH HB.out)) : w.heap.size ≤ a1)); replace HB := Aside0.mk (below_step (upH HB.out) hb); have a3 := a2; clear hb hbox hg; obtain ⟨b0, b1, b2, b3⟩ := cc4_ a0.out; obtain ⟨b4, b5, b6⟩ := cf3_ a0.out; have b7 := blk_frozen a0.out 3) | ((with_reducible refine gc_ 55 rfl ?_); refine gl_ (some 5) rfl Tryz.func55 #[.int .i64 a0_0] ?_; (with_reducible refine (impl_partOk.calls a0_0 true _ A2.out).mono ?_); rintro e w' ⟨rfl, ⟨nd, rfl⟩⟩; refine ⟨_, rfl, ?_⟩) | (go_at_call 55; (with_reducible refine (impl_partOk.calls a0_1 true _ A4.out).mono ?_); rintro e w' ⟨rfl, ⟨nd, rfl⟩⟩) | (go_at_call 55; (with_reducible refine (impl_partOk.calls a0_2 true _ A6.out).mono ?_); rintro e w' ⟨rfl, ⟨nd, rfl⟩⟩) | (go_at_call 55; (with_reducible refine (impl_partOk.calls a0_3 a7 _ A8.out).mono ?_); rintro e w' ⟨rfl, ⟨nd, rfl⟩⟩))
   go_ret
   exact ⟨by first | rfl | (simp [*, errW_none, errW_some] <;> rfl), by repeat (with_reducible first | exact HB.out | apply below_alloc | apply pw_below_drewN | apply below_drew1 | refine below_set ?_ (Aside0.out ‹_›))⟩
  replace c7 := Bool.eq_false_iff.mpr c7
  subst c7
  rw [if_neg (show ¬ (false = true) by decide)] at H
  obtain rfl := Option.some.inj H
  go_enter Tryz.func24, Tryz.ntmps24
  go_wp2_with (first | ((with_reducible refine gd_ 1 rfl ?_); refine bx_ 1 rfl #[.int .i64 a0_0, .int .i64 a0_1, .int .i64 a0_2, .int .i64 a0_3] 47 ?_; intro a1 hg w11 hbox hb; have a0 := Aside0.mk (hbox); have a2 := Aside0.mk ((by rw [hg]; exact (below_size (upH HB.out)) : w.heap.size ≤ a1)); replace HB := Aside0.mk (below_step (upH HB.out) hb); have a3 := a2; clear hb hbox hg; obtain ⟨b8, b9, c0, c1⟩ := cc4_ a0.out; obtain ⟨c2, c4, c6⟩ := cf3_ a0.out; have c8 := blk_frozen a0.out 3) | ((with_reducible refine gc_ 55 rfl ?_); refine gl_ (some 5) rfl Tryz.func55 #[.int .i64 a0_0] ?_; (with_reducible refine (impl_partOk.calls a0_0 true _ A2.out).mono ?_); rintro e w' ⟨rfl, ⟨nd, rfl⟩⟩; refine ⟨_, rfl, ?_⟩) | (go_at_call 55; (with_reducible refine (impl_partOk.calls a0_1 true _ A4.out).mono ?_); rintro e w' ⟨rfl, ⟨nd, rfl⟩⟩) | (go_at_call 55; (with_reducible refine (impl_partOk.calls a0_2 false _ A6.out).mono ?_); rintro e w' ⟨rfl, ⟨nd, rfl⟩⟩))
  go_ret
  exact ⟨by first | rfl | (simp [*, errW_none, errW_some] <;> rfl), by repeat (with_reducible first | exact HB.out | apply below_alloc | apply pw_below_drewN | apply below_drew1 | refine below_set ?_ (Aside0.out ‹_›))⟩
 replace c5 := Bool.eq_false_iff.mpr c5
 subst c5
 rw [if_neg (show ¬ (false = true) by decide)] at H
 obtain rfl := Option.some.inj H
 go_enter Tryz.func24, Tryz.ntmps24
 go_wp2_with (first | ((with_reducible refine gd_ 1 rfl ?_); refine bx_ 1 rfl #[.int .i64 a0_0, .int .i64 a0_1, .int .i64 a0_2, .int .i64 a0_3] 47 ?_; intro a1 hg w13 hbox hb; have a0 := Aside0.mk (hbox); have a2 := Aside0.mk ((by rw [hg]; exact (below_size (upH HB.out)) : w.heap.size ≤ a1)); replace HB := Aside0.mk (below_step (upH HB.out) hb); have a3 := a2; clear hb hbox hg; obtain ⟨c9, d0, d1, d2⟩ := cc4_ a0.out; obtain ⟨d3, d4, d5⟩ := cf3_ a0.out; have d6 := blk_frozen a0.out 3) | ((with_reducible refine gc_ 55 rfl ?_); refine gl_ (some 5) rfl Tryz.func55 #[.int .i64 a0_0] ?_; (with_reducible refine (impl_partOk.calls a0_0 true _ A2.out).mono ?_); rintro e w' ⟨rfl, ⟨nd, rfl⟩⟩; refine ⟨_, rfl, ?_⟩) | (go_at_call 55; (with_reducible refine (impl_partOk.calls a0_1 false _ A4.out).mono ?_); rintro e w' ⟨rfl, ⟨nd, rfl⟩⟩))
 go_ret
 exact ⟨by first | rfl | (simp [*, errW_none, errW_some] <;> rfl), by repeat (with_reducible first | exact HB.out | apply below_alloc | apply pw_below_drewN | apply below_drew1 | refine below_set ?_ (Aside0.out ‹_›))⟩
end
section
def laws_eaOk.f  : Option (Bool) := (impl_PixOk.f 1 2 3 4).bind fun t101 => (some t101)
set_option maxHeartbeats 8000000 in
set_option maxRecDepth 100000 in
theorem laws_eaOk.calls  (r : Bool) (w : World) (h : laws_eaOk.f  = some r) :
    Calls Tryz.prog 9 #[] w fun e w' => e = .returned (.bool r) ∧ Below w.heap.size w w' := by
  have hu47 := Tryz.underlying47; have HB := Aside0.mk (Below.refl w.heap.size w); have H : ((impl_PixOk.f 1 2 3 4).bind fun t101 => (some t101)) = some r := h; clear h; obtain ⟨t101, A1, H⟩ := bindA H; (try dsimp only at H); obtain rfl := Option.some.inj H
  go_enter Tryz.func9, Tryz.ntmps9
  go_wp2_with (first | ((with_reducible refine gc_ 24 rfl ?_); refine gl_ (some 2) rfl Tryz.func24 #[.agg #[.int .i64 1, .int .i64 2, .int .i64 3, .int .i64 4]] ?_; (with_reducible refine (impl_PixOk.calls 1 2 3 4 t101 _ A1.out).mono ?_); rintro e w2 ⟨rfl, hb⟩; refine ⟨_, rfl, ?_⟩; replace HB := Aside0.mk (below_step (upH HB.out) hb); (try clear hb)))
  go_ret
  exact ⟨by first | rfl | (simp [*, errW_none, errW_some] <;> rfl), upH HB.out⟩
end
section
mutual
def impl_numberRead.j0 : Nat → ByteArray → Bool → Option (Int × Bool)
 | 0, _, _ => none
 | k + 1, x0, x22 => if x22 = true then (some (0, false)) else (impl_numberRead.l0 k x0 0 (x0.size : Int) 0)
def impl_numberRead.l0 : Nat → ByteArray → Int → Int → Int → Option (Int × Bool)
 | 0, _, _, _, _ => none
 | k + 1, x0, x4, x24, x25 => if x25 < x24 then (if 0 ≤ x25 then (if x25 < (x0.size : Int) then (if (bt x0 x25) < 48 then (some (0, false)) else (if (bt x0 x25) > 57 then (some (0, false)) else (impl_numberRead.l0 k x0 (wrap64 ((wrap64 (10 * x4)) + (((bt x0 x25) - 48) % 256))) x24 (wrap64 (x25 + 1))))) else (none)) else (none)) else (some (x4, true))
end
def impl_numberRead.f (k : Nat) (a0 : ByteArray) : Option (Int × Bool) := if a0.toList = ([] : List UInt8) then (impl_numberRead.j0 k a0 true) else (if (a0.size : Int) > 6 then (impl_numberRead.j0 k a0 true) else (if 0 < (a0.size : Int) then (if (bt a0 0) = 48 then (impl_numberRead.j0 k a0 (decide ((a0.size : Int) > 1))) else (impl_numberRead.j0 k a0 false)) else (none)))
set_option maxHeartbeats 8000000 in
set_option maxRecDepth 100000 in
theorem impl_numberRead.calls (k : Nat) (a0 : ByteArray) (r1 : Int) (r2 : Bool) (w : World) (h : impl_numberRead.f k a0 = some (r1, r2)) :
  Calls Tryz.prog 35 #[.string a0] w fun e w' => e = .returned (.tuple #[.int .i64 r1, .bool r2]) ∧ Drawn0 w w' := by
 have H : (if a0.toList = ([] : List UInt8) then (impl_numberRead.j0 k a0 true) else (if (a0.size : Int) > 6 then (impl_numberRead.j0 k a0 true) else (if 0 < (a0.size : Int) then (if (bt a0 0) = 48 then (impl_numberRead.j0 k a0 (decide ((a0.size : Int) > 1))) else (impl_numberRead.j0 k a0 false)) else (none)))) = some (r1, r2) := h; clear h; have HC2 := Aside0.mk H; clear H
 go_enter Tryz.func35, Tryz.ntmps35
 go_upto_region 1 with (fail)
 go_cut [22] (fun v22 wc => ∃ (kq : Nat) (a3 : Bool), v22 = .bool a3 ∧ Aside0 (impl_numberRead.j0 kq a0 a3 = some (r1, r2)) ∧ Aside0 (kq ≤ k) ∧ Drawn0 w wc)
 case first =>
  have H := HC2.out; clear HC2
  by_cases c3 : a0.toList = ([] : List UInt8)
  ·
   rw [if_pos c3] at H
   have a2 := beq_iff_eq.mpr c3; have a5 := bne_eq_false_iff_eq.mpr c3; clear c3
   (first | rw [a2] | (simp only [i64_w, i32_w]; rw [a2]) | skip)
   have H' := Aside0.mk H; clear H
   go_wp2
   go_meet
   case rel => exact ⟨_, (true), (by first | rfl | (simp; done) | (simp [*]; done)), H', ⟨by first | omega | exact Nat.le_refl _⟩, by repeat (first | exact Drawn0.refl _ | apply Drawn0.step)⟩
  rw [if_neg c3] at H
  have a2 := beq_eq_false_iff_ne.mpr c3; have a5 := bne_iff_ne.mpr c3
  (first | rw [a2] | (simp only [i64_w, i32_w]; rw [a2]) | skip)
  by_cases c4 : (a0.size : Int) > 6
  ·
   rw [if_pos c4] at H
   have a6 : decide (6 < (a0.size : Int)) = true := decide_eq_true c4; have a7 : decide (6 < a0.size) = true := decide_eq_true (by omega); clear c4; have H' := Aside0.mk H; clear H
   go_wp2
   go_meet
   case rel => exact ⟨_, (true), (by first | rfl | (simp; done) | (simp [*]; done)), H', ⟨by first | omega | exact Nat.le_refl _⟩, by repeat (first | exact Drawn0.refl _ | apply Drawn0.step)⟩
  rw [if_neg c4] at H
  have a6 : decide (6 < (a0.size : Int)) = false := decide_eq_false c4; have a7 : decide (6 < a0.size) = false := decide_eq_false (by omega); clear c4
  by_cases c5 : 0 < (a0.size : Int)
  ·
   rw [if_pos c5] at H
   have b0 : decide (0 < (a0.size : Int)) = true := decide_eq_true c5; have b1 : decide (0 < a0.size) = true := decide_eq_true (by omega); clear c5
   by_cases c7 : (bt a0 0) = 48
   ·
    rw [if_pos c7] at H
    have a8 := beq_iff_eq.mpr c7; have a9 := bne_eq_false_iff_eq.mpr c7; clear c7; have H' := Aside0.mk H; clear H; have p6 : 0 ≤ (0 : Int) := (by omega); have q6 : 0 < a0.size := (by have : (0 : Int) < (a0.size : Int) := of_decide_eq_true (by assumption); omega); have hx6 : ∀ h : 0 < a0.size, ((a0[0]'h).toNat : Int) = bt a0 0 := bt_at a0 0; clear p6; have qi6 : (0 < (a0.size : Int)) = True := eq_true (of_decide_eq_true (by assumption)); replace q6 := eq_true q6
    go_wp2
    go_meet
    case rel => exact ⟨_, (decide ((a0.size : Int) > 1)), (by first | rfl | (simp; done) | (simp [*]; done)), H', ⟨by first | omega | exact Nat.le_refl _⟩, by repeat (first | exact Drawn0.refl _ | apply Drawn0.step)⟩
   rw [if_neg c7] at H
   have a8 := beq_eq_false_iff_ne.mpr c7; have a9 := bne_iff_ne.mpr c7; have H' := Aside0.mk H; clear H; have p6 : 0 ≤ (0 : Int) := (by omega); have q6 : 0 < a0.size := (by have : (0 : Int) < (a0.size : Int) := of_decide_eq_true (by assumption); omega); have hx6 : ∀ h : 0 < a0.size, ((a0[0]'h).toNat : Int) = bt a0 0 := bt_at a0 0; clear p6; have qi6 : (0 < (a0.size : Int)) = True := eq_true (of_decide_eq_true (by assumption)); replace q6 := eq_true q6
   go_wp2
   go_meet
   case rel => exact ⟨_, (false), (by first | rfl | (simp; done) | (simp [*]; done)), H', ⟨by first | omega | exact Nat.le_refl _⟩, by repeat (first | exact Drawn0.refl _ | apply Drawn0.step)⟩
  rw [if_neg c5] at H
  exact absurd H (by simp)
 case rest =>
  clear HC2; (try clear p2); (try clear c3); (try clear a2); (try clear a5); (try clear c4); (try clear a6); (try clear a7); (try clear c5); (try clear b0); (try clear b1); (try clear p6); (try clear q6); (try clear hx6); (try clear qi6); (try clear c7); (try clear a8); (try clear a9); (try clear p6); (try clear q6); obtain ⟨kq, a3, rfl, HA, HJ1, ⟨mc1, rfl⟩⟩ := hcut
  cases kq with
  | zero => exact absurd HA.out (by simp [impl_numberRead.j0])
  | succ kj1 =>
   have H := HA.out; clear HA
   simp only [impl_numberRead.j0] at H
   by_cases c8 : a3 = true
   ·
    subst c8
    rw [if_pos rfl] at H
    simp only [Option.some.injEq, Prod.mk.injEq] at H
    obtain ⟨rfl, rfl⟩ := H
    go_wp2
    go_ret2
    exact ⟨by first | rfl | (simp; done) | (simp [*]; done), by repeat (first | exact Drawn0.refl _ | apply Drawn0.step)⟩
   replace c8 := Bool.eq_false_iff.mpr c8
   subst c8
   rw [if_neg (show ¬ (false = true) by decide)] at H
   have H' := Aside0.mk H; clear H
   go_wp2
   (try simp only [Act.put, List.setIfInBounds_toArray, List.set_cons_zero, List.set_cons_succ])
   go_loopg [4, 25] kj1 (fun kq v4 v25 w' => ∃ (a4 : Int) (a1 : Int), v4 = .int .i64 a4 ∧ v25 = .int .i64 a1 ∧ Aside0 (impl_numberRead.l0 kq a0 a4 (a0.size : Int) a1 = some (r1, r2)) ∧ Aside0 (kq ≤ kj1) ∧ Drawn0 w w')
   case atStart => exact ⟨(0), (0), (by first | rfl | (simp; done) | (simp [*]; done)), (by first | rfl | (simp; done) | (simp [*]; done)), H', ⟨Nat.le_refl _⟩, by repeat (first | exact Drawn0.refl _ | apply Drawn0.step)⟩
   case round =>
    clear H'; (try clear c1); (try clear p2); (try clear c3); (try clear a2); (try clear a5); (try clear c4); (try clear a6); (try clear a7); (try clear c5); (try clear b0); (try clear b1); (try clear p6); (try clear q6); (try clear hx6); (try clear qi6); (try clear c7); (try clear a8); (try clear a9); (try clear c8); (try clear p2); (try clear p6); (try clear q6); obtain ⟨a4, a1, rfl, rfl, HA, HK2, ⟨m2, rfl⟩⟩ := hrel
    cases gk with
    | zero => exact absurd HA.out (by simp [impl_numberRead.l0])
    | succ k2 =>
     have H := HA.out; clear HA
     simp only [impl_numberRead.l0] at H
     by_cases c9 : a1 < (a0.size : Int)
     rotate_left
     ·
      rw [if_neg c9] at H
      have b5 : decide (a1 < (a0.size : Int)) = false := decide_eq_false c9; clear c9
      simp only [Option.some.injEq, Prod.mk.injEq] at H
      obtain ⟨rfl, rfl⟩ := H
      go_wp2
      go_ret2
      exact ⟨by first | rfl | (simp; done) | (simp [*]; done), by repeat (first | exact Drawn0.refl _ | apply Drawn0.step)⟩
     rw [if_pos c9] at H
     have b5 : decide (a1 < (a0.size : Int)) = true := decide_eq_true c9; clear c9
     by_cases c10 : 0 ≤ a1
     rotate_left
     ·
      rw [if_neg c10] at H
      exact absurd H (by simp)
     rw [if_pos c10] at H
     replace c10 := decide_eq_true c10
     by_cases c11 : a1 < (a0.size : Int)
     rotate_left
     ·
      rw [if_neg c11] at H
      exact absurd H (by simp)
     rw [if_pos c11] at H
     replace c11 := decide_eq_true c11
     by_cases c13 : (bt a0 a1) < 48
     ·
      rw [if_pos c13] at H
      have b2 : decide ((bt a0 a1) < 48) = true := decide_eq_true c13; clear c13
      simp only [Option.some.injEq, Prod.mk.injEq] at H
      obtain ⟨rfl, rfl⟩ := H; have p12 : 0 ≤ (a1 : Int) := of_decide_eq_true (by assumption); have q12 : a1 < (a0.size : Int) := of_decide_eq_true (by assumption); have b3 := bt_at a0 a1; replace p12 := eq_true p12; replace q12 := eq_true q12
      go_wp2
      go_ret2
      exact ⟨by first | rfl | (simp; done) | (simp [*]; done), by repeat (first | exact Drawn0.refl _ | apply Drawn0.step)⟩
     rw [if_neg c13] at H
     have b2 : decide ((bt a0 a1) < 48) = false := decide_eq_false c13; clear c13
     by_cases c15 : (bt a0 a1) > 57
     ·
      rw [if_pos c15] at H
      have b4 : decide (57 < (bt a0 a1)) = true := decide_eq_true c15; clear c15
      simp only [Option.some.injEq, Prod.mk.injEq] at H
      obtain ⟨rfl, rfl⟩ := H; have p12 : 0 ≤ (a1 : Int) := of_decide_eq_true (by assumption); have q12 : a1 < (a0.size : Int) := of_decide_eq_true (by assumption); have b3 := bt_at a0 a1; replace p12 := eq_true p12; replace q12 := eq_true q12; have p14 : 0 ≤ (a1 : Int) := of_decide_eq_true (by assumption); have q14 : a1 < (a0.size : Int) := of_decide_eq_true (by assumption); have b6 := bt_at a0 a1; replace p14 := eq_true p14; replace q14 := eq_true q14
      go_wp2
      go_ret2
      exact ⟨by first | rfl | (simp; done) | (simp [*]; done), by repeat (first | exact Drawn0.refl _ | apply Drawn0.step)⟩
     rw [if_neg c15] at H
     have b4 : decide (57 < (bt a0 a1)) = false := decide_eq_false c15; clear c15; have H' := Aside0.mk H; clear H; have p12 : 0 ≤ (a1 : Int) := of_decide_eq_true (by assumption); have q12 : a1 < (a0.size : Int) := of_decide_eq_true (by assumption); have b3 := bt_at a0 a1; replace p12 := eq_true p12; replace q12 := eq_true q12; have p14 : 0 ≤ (a1 : Int) := of_decide_eq_true (by assumption); have q14 : a1 < (a0.size : Int) := of_decide_eq_true (by assumption); have b6 := bt_at a0 a1; replace p14 := eq_true p14; replace q14 := eq_true q14; have p16 : 0 ≤ (a1 : Int) := of_decide_eq_true (by assumption); have q16 : a1 < (a0.size : Int) := of_decide_eq_true (by assumption); have b7 := bt_at a0 a1; replace p16 := eq_true p16; replace q16 := eq_true q16
     go_wp2
     go_roundg k2
     case measure => have := HJ1.out; have := HK2.out; omega
     case rel => exact ⟨(wrap64 ((wrap64 (10 * a4)) + (((bt a0 a1) - 48) % 256))), (wrap64 (a1 + 1)), (by first | rfl | (simp; done) | (simp [*]; done)), (by first | rfl | (simp; done) | (simp [*]; done)), H', ⟨by have := HJ1.out; have := HK2.out; omega⟩, by repeat (first | exact Drawn0.refl _ | apply Drawn0.step)⟩
end
section
end
section
end
section
open Go.Proofs.YtmplnpjdbfedbaaGreatDoorW.PrintWords.Kd renaming own_blk → yaa, R_ne → yab, R_reads' → yak
open Go.Proofs.YtmplnpjdbfedbaaGreatDoorW.PrintWords renaming add_block → yac, cell_far → yae, pw_below_drewN → yaf, below_drew1 → yag, below_alloc → yah, below_set → yai, blk_frozen → yaj, blk_put → yal
open Go.Proofs.YtmplnpjdbfedbaaGreatDoorW.PrintWords.Aside0 renaming mk → yad
end
end Go.Proofs.YtmplnpjdbfedbaaGreatDoor.X
