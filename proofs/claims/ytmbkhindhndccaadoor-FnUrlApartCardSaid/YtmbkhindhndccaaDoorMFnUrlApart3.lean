/- Lemmas and contracts for the law FnUrlApart, part 3: of the program's functions, and over data alone. Conditions: the listed package-level variables begin as the program's text lays them (tied by the card). -/
import Derived.Test.YtmbkhindhndccaaDoorMFnUrlApart2
namespace Go.Proofs.YtmbkhindhndccaaDoor.X
open Go.RowKit Go.Proofs.YtmbkhindhndccaaDoorW.PrintWords Go.Proofs.YtmbkhindhndccaaDoorW.PrintLast Go.Proofs.YtmbkhindhndccaaDoorW.PrintMore
attribute [local go_sem] max2_int min2_int max_two min_two max_three min_three max_four min_four
set_option linter.unusedVariables false
set_option linter.unusedSimpArgs false

section
open Go.Proofs.YtmbkhindhndccaaDoorW.PrintWords.Kd renaming at_int → yaa

abbrev q73_0 : Array Bool := Array.replicate 15 false
abbrev q73_1 : Array Bool := bl_ 15 1
abbrev q73_2 : Array Bool := bl_ 15 3
abbrev q73_3 : Array Bool := bl_ 15 19
abbrev q73_4 : Array Bool := bl_ 15 51
abbrev q73_5 : Array Bool := bl_ 15 563
abbrev q73_6 : Array Bool := bl_ 15 1587
abbrev q73_7 : Array Bool := bl_ 15 1591
abbrev q73_8 : Array Bool := bl_ 15 1655
abbrev q73_9 : Array Bool := bl_ 15 3703
abbrev q73_10 : Array Bool := bl_ 15 3711
abbrev q73_11 : Array Bool := bl_ 15 3839
abbrev q73_12 : Array Bool := bl_ 15 4095
abbrev q73_13 : Array Bool := bl_ 15 8191
abbrev q73_14 : Array Bool := bl_ 15 16383
abbrev q73_15 : Array Bool := bl_ 15 32767
abbrev q73_16 : Array Bool := Array.replicate 17 false
abbrev q73_17 : Array Bool := bl_ 17 1
abbrev q73_18 : Array Bool := bl_ 17 3
abbrev q73_19 : Array Bool := bl_ 17 11
abbrev q73_20 : Array Bool := bl_ 17 27
abbrev q73_21 : Array Bool := bl_ 17 155
abbrev q73_22 : Array Bool := bl_ 17 411
abbrev q73_23 : Array Bool := bl_ 17 2459
abbrev q73_24 : Array Bool := bl_ 17 6555
abbrev q73_25 : Array Bool := bl_ 17 6559
abbrev q73_26 : Array Bool := bl_ 17 6591
abbrev q73_27 : Array Bool := bl_ 17 6655
abbrev q73_28 : Array Bool := bl_ 17 7167
abbrev q73_29 : Array Bool := bl_ 17 8191
abbrev q73_30 : Array Bool := bl_ 17 16383
abbrev q73_31 : Array Bool := bl_ 17 32767
abbrev q73_32 : Array Bool := bl_ 17 65535
abbrev q73_33 : Array Bool := bl_ 17 131071
abbrev q73_34 : Array Bool := Array.replicate 24 false
abbrev q73_35 : Array Bool := bl_ 24 1
abbrev q73_36 : Array Bool := bl_ 24 3
abbrev q73_37 : Array Bool := bl_ 24 11
abbrev q73_38 : Array Bool := bl_ 24 27
abbrev q73_39 : Array Bool := bl_ 24 155
abbrev q73_40 : Array Bool := bl_ 24 411
abbrev q73_41 : Array Bool := bl_ 24 1435
abbrev q73_42 : Array Bool := bl_ 24 3483
abbrev q73_43 : Array Bool := bl_ 24 36251
abbrev q73_44 : Array Bool := bl_ 24 101787
abbrev q73_45 : Array Bool := bl_ 24 363931
abbrev q73_46 : Array Bool := bl_ 24 888219
abbrev q73_47 : Array Bool := bl_ 24 888223
abbrev q73_48 : Array Bool := bl_ 24 888255
abbrev q73_49 : Array Bool := bl_ 24 888319
abbrev q73_50 : Array Bool := bl_ 24 888831
abbrev q73_51 : Array Bool := bl_ 24 892927
abbrev q73_52 : Array Bool := bl_ 24 901119
abbrev q73_53 : Array Bool := bl_ 24 917503
abbrev q73_54 : Array Bool := bl_ 24 1048575
abbrev q73_55 : Array Bool := bl_ 24 2097151
abbrev q73_56 : Array Bool := bl_ 24 4194303
abbrev q73_57 : Array Bool := bl_ 24 8388607
abbrev q73_58 : Array Bool := bl_ 24 16777215
abbrev q73_59 : Array Bool := Array.replicate 30 false
abbrev q73_60 : Array Bool := bl_ 30 1
abbrev q73_61 : Array Bool := bl_ 30 3
abbrev q73_62 : Array Bool := bl_ 30 7
abbrev q73_63 : Array Bool := bl_ 30 23
abbrev q73_64 : Array Bool := bl_ 30 55
abbrev q73_65 : Array Bool := bl_ 30 183
abbrev q73_66 : Array Bool := bl_ 30 439
abbrev q73_67 : Array Bool := bl_ 30 1463
abbrev q73_68 : Array Bool := bl_ 30 3511
abbrev q73_69 : Array Bool := bl_ 30 11703
abbrev q73_70 : Array Bool := bl_ 30 28087
abbrev q73_71 : Array Bool := bl_ 30 93623
abbrev q73_72 : Array Bool := bl_ 30 617911
abbrev q73_73 : Array Bool := bl_ 30 1666487
abbrev q73_74 : Array Bool := bl_ 30 5860791
abbrev q73_75 : Array Bool := bl_ 30 14249399
abbrev q73_76 : Array Bool := bl_ 30 47803831
abbrev q73_77 : Array Bool := bl_ 30 114912695
abbrev q73_78 : Array Bool := bl_ 30 114912759
abbrev q73_79 : Array Bool := bl_ 30 114913271
abbrev q73_80 : Array Bool := bl_ 30 114917367
abbrev q73_81 : Array Bool := bl_ 30 114950135
abbrev q73_82 : Array Bool := bl_ 30 115081207
abbrev q73_83 : Array Bool := bl_ 30 117178359
abbrev q73_84 : Array Bool := bl_ 30 133955575
abbrev q73_85 : Array Bool := bl_ 30 268173303
abbrev q73_86 : Array Bool := bl_ 30 268173311
abbrev q73_87 : Array Bool := bl_ 30 268435455
abbrev q73_88 : Array Bool := bl_ 30 536870911
abbrev q73_89 : Array Bool := bl_ 30 1073741823
def spec_l1Step.f (l0 : List Int) (a1 : Int) (a2 : Int) : Option (List Int) := if 4 < (l0.length : Int) then ((spec_l1Turn.f (rd l0 4) 6).bind fun t102 => ((spec_l1Turn.f (rd l0 4) 11).bind fun t104 => ((spec_l1Turn.f (rd l0 4) 25).bind fun t106 => (if 5 < (l0.length : Int) then (if 6 < (l0.length : Int) then (if 7 < (l0.length : Int) then ((spec_l1Word.f (IntKind.u64.wrap ((IntKind.u64.wrap ((IntKind.u64.wrap ((IntKind.u64.wrap ((rd l0 7) + (Go.bits .xor .u64 (Go.bits .xor .u64 t102 t104) t106))) + (Go.bits .xor .u64 (Go.bits .and .u64 (rd l0 4) (rd l0 5)) (Go.bits .and .u64 (Go.bits .xor .u64 4294967295 (rd l0 4)) (rd l0 6))))) + a1)) + a2))).bind fun t112 => (if 0 < (l0.length : Int) then ((spec_l1Turn.f (rd l0 0) 2).bind fun t114 => ((spec_l1Turn.f (rd l0 0) 13).bind fun t116 => ((spec_l1Turn.f (rd l0 0) 22).bind fun t118 => (if 1 < (l0.length : Int) then (if 2 < (l0.length : Int) then ((spec_l1Word.f (IntKind.u64.wrap ((Go.bits .xor .u64 (Go.bits .xor .u64 t114 t116) t118) + (Go.bits .xor .u64 (Go.bits .xor .u64 (Go.bits .and .u64 (rd l0 0) (rd l0 1)) (Go.bits .and .u64 (rd l0 0) (rd l0 2))) (Go.bits .and .u64 (rd l0 1) (rd l0 2)))))).bind fun t125 => ((spec_l1Word.f (IntKind.u64.wrap (t112 + t125))).bind fun t126 => (if 3 < (l0.length : Int) then ((spec_l1Word.f (IntKind.u64.wrap ((rd l0 3) + t112))).bind fun t131 => (some (([t126, rd l0 0, rd l0 1, rd l0 2, t131, rd l0 4, rd l0 5, rd l0 6] : List Int)))) else (none)))) else (none)) else (none))))) else (none))) else (none)) else (none)) else (none))))) else (none)
def spec_l1Step.T1 : Bool × List (List Nat × List Nat) := (true, [([], []), ([0], [0]), ([1], [1]), ([2], [2]), ([], []), ([4], [4]), ([5], [5]), ([6, 3], [6]), ([3, 7], [3, 7]), ([], []), ([9], [9]), ([10], [10]), ([11, 7], [11]), ([8, 12], [8, 12]), ([13, 12, 0, 1, 2, 3, 4, 5, 6, 7, 8, 9, 10, 11, 12, 13], [13])])
def spec_l1Step.B1 : List Nat := [0, 1, 3, 7, 0, 16, 48, 127, 255, 0, 512, 1536, 3839, 8191, 16383]
theorem spec_l1Step.tab1 : rtab .any (opsOf Tryd.f73 1) = spec_l1Step.T1 := by kernel_rfl
theorem spec_l1Step.bits1 : waitsOk spec_l1Step.T1.2 spec_l1Step.B1 = true := by kernel_rfl
def spec_l1Step.T2 : Bool × List (List Nat × List Nat) := (true, [([], []), ([0], [0]), ([1], [1]), ([], []), ([3], [3]), ([4], [4]), ([2, 5], [2, 5]), ([], []), ([7], [7]), ([8], [8]), ([9], [9]), ([], []), ([11], [11]), ([12], [12]), ([10, 13], [10, 13]), ([6, 14], [6, 14]), ([15, 0, 1, 2, 3, 4, 5, 6, 7, 8, 9, 10, 11, 12, 13, 14, 15], [15])])
def spec_l1Step.B2 : List Nat := [0, 1, 3, 0, 8, 24, 63, 0, 128, 384, 896, 0, 2048, 6144, 16256, 32767, 65535]
theorem spec_l1Step.tab2 : rtab .any (opsOf Tryd.f73 2) = spec_l1Step.T2 := by kernel_rfl
theorem spec_l1Step.bits2 : waitsOk spec_l1Step.T2.2 spec_l1Step.B2 = true := by kernel_rfl
def spec_l1Step.T4 : Bool × List (List Nat × List Nat) := (true, [([], []), ([0], [0]), ([1], [1]), ([2], [2]), ([], []), ([4], [4]), ([5], [5]), ([6, 3], [6]), ([3, 7], [3, 7]), ([], []), ([9], [9]), ([10], [10]), ([11, 7], [11]), ([8, 12], [8, 12]), ([13, 12, 0, 1, 2, 3, 4, 5, 6, 7, 8, 9, 10, 11, 12, 13], [13])])
def spec_l1Step.B4 : List Nat := [0, 1, 3, 7, 0, 16, 48, 127, 255, 0, 512, 1536, 3839, 8191, 16383]
theorem spec_l1Step.tab4 : rtab .any (opsOf Tryd.f73 4) = spec_l1Step.T4 := by kernel_rfl
theorem spec_l1Step.bits4 : waitsOk spec_l1Step.T4.2 spec_l1Step.B4 = true := by kernel_rfl
def spec_l1Step.T5 : Bool × List (List Nat × List Nat) := (true, [([], []), ([0], [0]), ([1], [1]), ([], []), ([3], [3]), ([4], [4]), ([2, 5], [2, 5]), ([], []), ([7], [7]), ([8], [8]), ([], []), ([10], [10]), ([11], [11]), ([9, 12], [9, 12]), ([6, 13], [6, 13]), ([], []), ([15], [15]), ([16], [16]), ([], []), ([18], [18]), ([19], [19]), ([17, 20], [17, 20]), ([14, 21], [14, 21]), ([22, 0, 1, 2, 3, 4, 5, 6, 7, 8, 9, 10, 11, 12, 13, 14, 15, 16, 17, 18, 19, 20, 21, 22], [22])])
def spec_l1Step.B5 : List Nat := [0, 1, 3, 0, 8, 24, 63, 0, 128, 384, 0, 1024, 3072, 8064, 16383, 0, 32768, 98304, 0, 262144, 786432, 2064384, 4194303, 8388607]
theorem spec_l1Step.tab5 : rtab .any (opsOf Tryd.f73 5) = spec_l1Step.T5 := by kernel_rfl
theorem spec_l1Step.bits5 : waitsOk spec_l1Step.T5.2 spec_l1Step.B5 = true := by kernel_rfl
def spec_l1Step.T7 : Bool × List (List Nat × List Nat) := (true, [([], []), ([], []), ([0, 1], [0, 1]), ([2], [2]), ([], []), ([4], [4]), ([5], [5]), ([], []), ([7], [7]), ([8], [8]), ([], []), ([10], [10]), ([11], [11]), ([], []), ([13], [13]), ([14], [14]), ([], []), ([15, 16], [15, 16]), ([17, 3], [17]), ([], []), ([19], [19]), ([20], [20]), ([], []), ([22], [22]), ([23], [23]), ([], []), ([25], [25]), ([26], [26]), ([3, 6, 9, 12, 18, 21, 24, 27], [3, 6, 9, 12, 18, 21, 24, 27]), ([28, 18, 0, 1, 2, 3, 4, 5, 6, 7, 8, 9, 10, 11, 12, 13, 14, 15, 16, 17, 18, 19, 20, 21, 22, 23, 24, 25, 26, 27, 28], [28])])
def spec_l1Step.B7 : List Nat := [0, 0, 3, 7, 0, 16, 48, 0, 128, 384, 0, 1024, 3072, 0, 8192, 24576, 0, 122880, 253967, 0, 524288, 1572864, 0, 4194304, 12582912, 0, 33554432, 100663296, 268435455, 536870911]
theorem spec_l1Step.tab7 : rtab .any (opsOf Tryd.f73 7) = spec_l1Step.T7 := by kernel_rfl
theorem spec_l1Step.bits7 : waitsOk spec_l1Step.T7.2 spec_l1Step.B7 = true := by kernel_rfl
set_option maxHeartbeats 8000000 in
set_option maxRecDepth 100000 in
theorem spec_l1Step.calls (A0 : Option Addr) (c0 : Nat) (l0 : List Int) (a1 : Int) (a2 : Int) (r : List Int) (w : World) (hr0 : Kd.C (Kd.int .u64) w A0 l0.length l0) (hc0 : l0.length ≤ c0) (h : spec_l1Step.f l0 a1 a2 = some r) :
  Calls Tryd.prog 73 #[.slice A0 l0.length c0, .int .u64 a1, .int .u64 a2] w fun e w' => ∃ v0_ : Value, e = .returned (v0_) ∧ Kd.R (Kd.int .u64) 103 w' w.heap.size (fun _ => True) v0_ r ∧ Below w.heap.size w w' := by
 have HR0 := Aside0.mk hr0; have HC0 := Aside0.mk hc0; clear hr0 hc0; have HB := Aside0.mk (Below.refl w.heap.size w); have H : (if 4 < (l0.length : Int) then ((spec_l1Turn.f (rd l0 4) 6).bind fun f6 => ((spec_l1Turn.f (rd l0 4) 11).bind fun f7 => ((spec_l1Turn.f (rd l0 4) 25).bind fun f8 => (if 5 < (l0.length : Int) then (if 6 < (l0.length : Int) then (if 7 < (l0.length : Int) then ((spec_l1Word.f (IntKind.u64.wrap ((IntKind.u64.wrap ((IntKind.u64.wrap ((IntKind.u64.wrap ((rd l0 7) + (Go.bits .xor .u64 (Go.bits .xor .u64 f6 f7) f8))) + (Go.bits .xor .u64 (Go.bits .and .u64 (rd l0 4) (rd l0 5)) (Go.bits .and .u64 (Go.bits .xor .u64 4294967295 (rd l0 4)) (rd l0 6))))) + a1)) + a2))).bind fun f3 => (if 0 < (l0.length : Int) then ((spec_l1Turn.f (rd l0 0) 2).bind fun f9 => ((spec_l1Turn.f (rd l0 0) 13).bind fun g0 => ((spec_l1Turn.f (rd l0 0) 22).bind fun g1 => (if 1 < (l0.length : Int) then (if 2 < (l0.length : Int) then ((spec_l1Word.f (IntKind.u64.wrap ((Go.bits .xor .u64 (Go.bits .xor .u64 f9 g0) g1) + (Go.bits .xor .u64 (Go.bits .xor .u64 (Go.bits .and .u64 (rd l0 0) (rd l0 1)) (Go.bits .and .u64 (rd l0 0) (rd l0 2))) (Go.bits .and .u64 (rd l0 1) (rd l0 2)))))).bind fun g2 => ((spec_l1Word.f (IntKind.u64.wrap (f3 + g2))).bind fun f4 => (if 3 < (l0.length : Int) then ((spec_l1Word.f (IntKind.u64.wrap ((rd l0 3) + f3))).bind fun f5 => (some (([f4, rd l0 0, rd l0 1, rd l0 2, f5, rd l0 4, rd l0 5, rd l0 6] : List Int)))) else (none)))) else (none)) else (none))))) else (none))) else (none)) else (none)) else (none))))) else (none)) = some r := h; clear h
 by_cases c4 : 4 < (l0.length : Int)
 ·
  rw [if_pos c4] at H
  have j9 : decide (4 < (l0.length : Int)) = true := decide_eq_true c4; have k0 : decide (4 < l0.length) = true := decide_eq_true (by omega); clear c4; obtain ⟨f6, A5, H⟩ := bindA H; (try dsimp only at H); obtain ⟨f7, A6, H⟩ := bindA H; (try dsimp only at H); obtain ⟨f8, A7, H⟩ := bindA H; (try dsimp only at H)
  by_cases c8 : 5 < (l0.length : Int)
  ·
   rw [if_pos c8] at H
   have k1 : decide (5 < (l0.length : Int)) = true := decide_eq_true c8; have k2 : decide (5 < l0.length) = true := decide_eq_true (by omega); clear c8
   by_cases c9 : 6 < (l0.length : Int)
   ·
    rw [if_pos c9] at H
    have k3 : decide (6 < (l0.length : Int)) = true := decide_eq_true c9; have k4 : decide (6 < l0.length) = true := decide_eq_true (by omega); clear c9
    by_cases c10 : 7 < (l0.length : Int)
    ·
     rw [if_pos c10] at H
     have i9 : decide (7 < (l0.length : Int)) = true := decide_eq_true c10; have j0 : decide (7 < l0.length) = true := decide_eq_true (by omega); clear c10; obtain ⟨f3, A11, H⟩ := bindA H; (try dsimp only at H)
     by_cases c12 : 0 < (l0.length : Int)
     ·
      rw [if_pos c12] at H
      have j1 : decide (0 < (l0.length : Int)) = true := decide_eq_true c12; have j2 : decide (0 < l0.length) = true := decide_eq_true (by omega); clear c12; obtain ⟨f9, A13, H⟩ := bindA H; (try dsimp only at H); obtain ⟨g0, A14, H⟩ := bindA H; (try dsimp only at H); obtain ⟨g1, A15, H⟩ := bindA H; (try dsimp only at H)
      by_cases c16 : 1 < (l0.length : Int)
      ·
       rw [if_pos c16] at H
       have j3 : decide (1 < (l0.length : Int)) = true := decide_eq_true c16; have j4 : decide (1 < l0.length) = true := decide_eq_true (by omega); clear c16
       by_cases c17 : 2 < (l0.length : Int)
       ·
        rw [if_pos c17] at H
        have j5 : decide (2 < (l0.length : Int)) = true := decide_eq_true c17; have j6 : decide (2 < l0.length) = true := decide_eq_true (by omega); clear c17; obtain ⟨g2, A18, H⟩ := bindA H; (try dsimp only at H); obtain ⟨f4, A19, H⟩ := bindA H; (try dsimp only at H)
        by_cases c20 : 3 < (l0.length : Int)
        ·
         rw [if_pos c20] at H
         have j7 : decide (3 < (l0.length : Int)) = true := decide_eq_true c20; have j8 : decide (3 < l0.length) = true := decide_eq_true (by omega); clear c20; obtain ⟨f5, A21, H⟩ := bindA H; (try dsimp only at H); obtain ⟨y135, hy135⟩ : ∃ y_ : List Int, y_ = (([f4, rd l0 0, rd l0 1, rd l0 2, f5, rd l0 4, rd l0 5, rd l0 6] : List Int)) := ⟨_, rfl⟩
         replace H : (some y135) = some r := by first | (rw [hy135]; with_reducible exact H) | (have H2_ := (Option.bind_some _ _).symm.trans H; rw [hy135]; with_reducible exact H2_) | (have H2_ := (Option.bind_some _ _).symm.trans H; with_reducible exact H2_) | with_reducible exact H | (rw [hy135]; exact H) | exact H
         have Ny135 := Aside0.mk hy135; clear hy135; obtain rfl := Option.some.inj H
         go_enter Tryd.func73, Tryd.ntmps73
         try go_wp2
         replace HB := Aside0.mk (below_drew1 HB.out); have p101 : 0 ≤ (4 : Int) := (by omega); have q101 : 4 < (l0.length : Int) := of_decide_eq_true (by assumption); obtain ⟨ad101, g5, b5⟩ := yaa HR0.out 4 p101 q101; have a0 := b5
         (try rw [show ((4 : Int)).toNat = 4 from rfl] at a0)
         (try rw [show 4 * 1 = 4 from rfl] at a0)
         (try simp only [Nat.reduceMul, Nat.reduceEqDiff, Go.Addr.add, ↓reduceIte] at a0)
         cases g5
         (try simp only [show (4 : Int).toNat = 4 from rfl, Nat.reduceMul, Nat.reduceEqDiff, Go.Addr.add, ↓reduceIte] at b5)
         have qi101 : (4 < l0.length) = True := eq_true (by omega)
         (try rw [show ((4 : Int)).toNat = 4 from rfl] at b5)
         replace b5 := (upc_ HB.out b5 :); replace p101 := eq_true p101; replace q101 := eq_true q101; have p103 : 0 ≤ (4 : Int) := (by omega); have q103 : 4 < (l0.length : Int) := of_decide_eq_true (by assumption); obtain ⟨ad103, g6, b6⟩ := yaa HR0.out 4 p103 q103; have a3 := b6
         (try rw [show ((4 : Int)).toNat = 4 from rfl] at a3)
         (try rw [show 4 * 1 = 4 from rfl] at a3)
         (try simp only [Nat.reduceMul, Nat.reduceEqDiff, Go.Addr.add, ↓reduceIte] at a3)
         obtain rfl : ad101 = ad103 := (by injection g6)
         (try simp only [show (4 : Int).toNat = 4 from rfl, Nat.reduceMul, Nat.reduceEqDiff, Go.Addr.add, ↓reduceIte] at b6)
         have qi103 : (4 < l0.length) = True := eq_true (by omega)
         (try rw [show ((4 : Int)).toNat = 4 from rfl] at b6)
         replace b6 := (upc_ HB.out b6 :); replace p103 := eq_true p103; replace q103 := eq_true q103; have p105 : 0 ≤ (4 : Int) := (by omega); have q105 : 4 < (l0.length : Int) := of_decide_eq_true (by assumption); obtain ⟨ad105, g7, b7⟩ := yaa HR0.out 4 p105 q105; have a4 := b7
         (try rw [show ((4 : Int)).toNat = 4 from rfl] at a4)
         (try rw [show 4 * 1 = 4 from rfl] at a4)
         (try simp only [Nat.reduceMul, Nat.reduceEqDiff, Go.Addr.add, ↓reduceIte] at a4)
         obtain rfl : ad101 = ad105 := (by injection g7)
         (try simp only [show (4 : Int).toNat = 4 from rfl, Nat.reduceMul, Nat.reduceEqDiff, Go.Addr.add, ↓reduceIte] at b7)
         have qi105 : (4 < l0.length) = True := eq_true (by omega)
         (try rw [show ((4 : Int)).toNat = 4 from rfl] at b7)
         replace b7 := (upc_ HB.out b7 :); replace p105 := eq_true p105; replace q105 := eq_true q105
         refine start_ (n := 15) (S := fun w' => w'.cell? ⟨ad101.block, ad101.off + 4, none⟩ = some (.int .u64 (rd l0 4)) ∧ w'.cell? ⟨ad101.block, ad101.off + 4, none⟩ = some (.int .u64 (rd l0 4)) ∧ w'.cell? ⟨ad101.block, ad101.off + 4, none⟩ = some (.int .u64 (rd l0 4))) (ds := []) q73_0 (by kernel_rfl) rfl rfl ⟨(upc_ HB.out a0 :), (upc_ HB.out a3 :), (upc_ HB.out a4 :)⟩ (fun hHeld => ?_); refine with_tabW spec_l1Step.tab1 spec_l1Step.bits1 (fun HT_ HW_ => ?_)
         generalize w.drew = w22 at HB b5 b6 b7 hHeld ⊢
         refine pz_ 0 13 q73_1 HT_ (by kernel_rfl) ?_
         refine pz_ 1 14 q73_2 HT_ (by kernel_rfl) ?_
         refine pz_ 4 17 q73_3 HT_ (by kernel_rfl) ?_
         refine pz_ 5 18 q73_4 HT_ (by kernel_rfl) ?_
         refine pz_ 9 22 q73_5 HT_ (by kernel_rfl) ?_
         refine pz_ 10 23 q73_6 HT_ (by kernel_rfl) ?_
         refine tz_ 2 15 q73_7 HT_ HW_ (by kernel_rfl) hHeld ?_
         refine tz_ 6 19 q73_8 HT_ HW_ (by kernel_rfl) hHeld ?_
         refine tz_ 11 24 q73_9 HT_ HW_ (by kernel_rfl) hHeld ?_
         refine one_ (i := 3) (N := some 16) q73_10 rfl rfl (one_of HT_.out (by kernel_rfl)) (by decide) (fun K hK => ?_)
         refine goes_ Tryd.func84 (by kernel_rfl) rfl #[.int .u64 (rd l0 4), .int .u64 6] (by rfl) rfl rfl (by (try simp only [List.map_toArray, List.map_cons, List.map_nil]); first | done | rfl | (simp only [List.length_drop, List.length_take]; rfl)) ?_
         with_reducible refine (spec_l1Turn.calls (rd l0 4) 6 f6 _ A5.out).mono ?_
         rintro e w' ⟨rfl, ⟨nd, rfl⟩⟩; refine ⟨_, rfl, ?_⟩
         refine hK.out _ _ ⟨(upc_ HB.out a0 :), (upc_ HB.out a3 :), (upc_ HB.out a4 :)⟩ (fun hHeld => ?_)
         clear hK K
         refine norm_ (a' := ?_) ?_ ?_
         rotate_left
         ·
          show Act.put _ (some 16) _ = _
          simp only [Act.put, List.setIfInBounds_toArray, List.set_cons_zero, List.set_cons_succ, i64_w, i32_w]
          rfl
         refine one_ (i := 7) (N := some 20) q73_11 rfl rfl (one_of HT_.out (by kernel_rfl)) (by decide) (fun K hK => ?_)
         refine goes_ Tryd.func84 (by kernel_rfl) rfl #[.int .u64 (rd l0 4), .int .u64 11] (by rfl) rfl rfl (by (try simp only [List.map_toArray, List.map_cons, List.map_nil]); first | done | rfl | (simp only [List.length_drop, List.length_take]; rfl)) ?_
         with_reducible refine (spec_l1Turn.calls (rd l0 4) 11 f7 _ A6.out).mono ?_
         rintro e w' ⟨rfl, ⟨nd, rfl⟩⟩; refine ⟨_, rfl, ?_⟩
         refine hK.out _ _ ⟨(upc_ HB.out a0 :), (upc_ HB.out a3 :), (upc_ HB.out a4 :)⟩ (fun hHeld => ?_)
         clear hK K
         refine norm_ (a' := ?_) ?_ ?_
         rotate_left
         ·
          show Act.put _ (some 20) _ = _
          simp only [Act.put, List.setIfInBounds_toArray, List.set_cons_zero, List.set_cons_succ, i64_w, i32_w]
          rfl
         refine pz_ 8 21 q73_12 HT_ (by kernel_rfl) ?_
         refine one_ (i := 12) (N := some 25) q73_13 rfl rfl (one_of HT_.out (by kernel_rfl)) (by decide) (fun K hK => ?_)
         refine goes_ Tryd.func84 (by kernel_rfl) rfl #[.int .u64 (rd l0 4), .int .u64 25] (by rfl) rfl rfl (by (try simp only [List.map_toArray, List.map_cons, List.map_nil]); first | done | rfl | (simp only [List.length_drop, List.length_take]; rfl)) ?_
         with_reducible refine (spec_l1Turn.calls (rd l0 4) 25 f8 _ A7.out).mono ?_
         rintro e w' ⟨rfl, ⟨nd, rfl⟩⟩; refine ⟨_, rfl, ?_⟩
         refine hK.out _ _ ⟨(upc_ HB.out a0 :), (upc_ HB.out a3 :), (upc_ HB.out a4 :)⟩ (fun hHeld => ?_)
         clear hK K
         refine norm_ (a' := ?_) ?_ ?_
         rotate_left
         ·
          show Act.put _ (some 25) _ = _
          simp only [Act.put, List.setIfInBounds_toArray, List.set_cons_zero, List.set_cons_succ, i64_w, i32_w]
          rfl
         refine pz_ 13 26 q73_14 HT_ (by kernel_rfl) ?_
         refine pz_ 14 7 q73_15 HT_ (by kernel_rfl) ?_
         refine done_ (done_of HT_.out (by kernel_rfl)) ?_
         try go_wp2
         (try (rw [drewN_self w22]; generalize hq_ : World.drewN w22 _ = w22; have n0_ : Aside0 (Below w.heap.size w w22) := ⟨by rw [← hq_]; exact (upH HB.out)⟩; clear HB hq_; have HB := n0_; clear n0_))
         replace HB := Aside0.mk (below_drew1 HB.out); have p107 : 0 ≤ (4 : Int) := (by omega); have q107 : 4 < (l0.length : Int) := of_decide_eq_true (by assumption); obtain ⟨ad107, g8, b8⟩ := yaa HR0.out 4 p107 q107; have e2 := b8
         (try rw [show ((4 : Int)).toNat = 4 from rfl] at e2)
         (try rw [show 4 * 1 = 4 from rfl] at e2)
         (try simp only [Nat.reduceMul, Nat.reduceEqDiff, Go.Addr.add, ↓reduceIte] at e2)
         obtain rfl : ad101 = ad107 := (by injection g8)
         (try simp only [show (4 : Int).toNat = 4 from rfl, Nat.reduceMul, Nat.reduceEqDiff, Go.Addr.add, ↓reduceIte] at b8)
         have qi107 : (4 < l0.length) = True := eq_true (by omega)
         (try rw [show ((4 : Int)).toNat = 4 from rfl] at b8)
         replace b8 := (upc_ HB.out b8 :); replace p107 := eq_true p107; replace q107 := eq_true q107; have p108 : 0 ≤ (5 : Int) := (by omega); have q108 : 5 < (l0.length : Int) := of_decide_eq_true (by assumption); obtain ⟨ad108, g9, b9⟩ := yaa HR0.out 5 p108 q108; have e3 := b9
         (try rw [show ((5 : Int)).toNat = 5 from rfl] at e3)
         (try rw [show 5 * 1 = 5 from rfl] at e3)
         (try simp only [Nat.reduceMul, Nat.reduceEqDiff, Go.Addr.add, ↓reduceIte] at e3)
         obtain rfl : ad101 = ad108 := (by injection g9)
         (try simp only [show (5 : Int).toNat = 5 from rfl, Nat.reduceMul, Nat.reduceEqDiff, Go.Addr.add, ↓reduceIte] at b9)
         have qi108 : (5 < l0.length) = True := eq_true (by omega)
         (try rw [show ((5 : Int)).toNat = 5 from rfl] at b9)
         replace b9 := (upc_ HB.out b9 :); replace p108 := eq_true p108; replace q108 := eq_true q108; have p109 : 0 ≤ (4 : Int) := (by omega); have q109 : 4 < (l0.length : Int) := of_decide_eq_true (by assumption); obtain ⟨ad109, h0, c1⟩ := yaa HR0.out 4 p109 q109; have e4 := c1
         (try rw [show ((4 : Int)).toNat = 4 from rfl] at e4)
         (try rw [show 4 * 1 = 4 from rfl] at e4)
         (try simp only [Nat.reduceMul, Nat.reduceEqDiff, Go.Addr.add, ↓reduceIte] at e4)
         obtain rfl : ad101 = ad109 := (by injection h0)
         (try simp only [show (4 : Int).toNat = 4 from rfl, Nat.reduceMul, Nat.reduceEqDiff, Go.Addr.add, ↓reduceIte] at c1)
         have qi109 : (4 < l0.length) = True := eq_true (by omega)
         (try rw [show ((4 : Int)).toNat = 4 from rfl] at c1)
         replace c1 := (upc_ HB.out c1 :); replace p109 := eq_true p109; replace q109 := eq_true q109; have p110 : 0 ≤ (6 : Int) := (by omega); have q110 : 6 < (l0.length : Int) := of_decide_eq_true (by assumption); obtain ⟨ad110, h1, c2⟩ := yaa HR0.out 6 p110 q110; have e5 := c2
         (try rw [show ((6 : Int)).toNat = 6 from rfl] at e5)
         (try rw [show 6 * 1 = 6 from rfl] at e5)
         (try simp only [Nat.reduceMul, Nat.reduceEqDiff, Go.Addr.add, ↓reduceIte] at e5)
         obtain rfl : ad101 = ad110 := (by injection h1)
         (try simp only [show (6 : Int).toNat = 6 from rfl, Nat.reduceMul, Nat.reduceEqDiff, Go.Addr.add, ↓reduceIte] at c2)
         have qi110 : (6 < l0.length) = True := eq_true (by omega)
         (try rw [show ((6 : Int)).toNat = 6 from rfl] at c2)
         replace c2 := (upc_ HB.out c2 :); replace p110 := eq_true p110; replace q110 := eq_true q110
         refine start_ (n := 17) (S := fun w' => w'.cell? ⟨ad101.block, ad101.off + 4, none⟩ = some (.int .u64 (rd l0 4)) ∧ w'.cell? ⟨ad101.block, ad101.off + 5, none⟩ = some (.int .u64 (rd l0 5)) ∧ w'.cell? ⟨ad101.block, ad101.off + 4, none⟩ = some (.int .u64 (rd l0 4)) ∧ w'.cell? ⟨ad101.block, ad101.off + 6, none⟩ = some (.int .u64 (rd l0 6))) (ds := []) q73_16 (by kernel_rfl) rfl rfl ⟨(upc_ HB.out e2 :), (upc_ HB.out e3 :), (upc_ HB.out e4 :), (upc_ HB.out e5 :)⟩ (fun hHeld => ?_); refine with_tabW spec_l1Step.tab2 spec_l1Step.bits2 (fun HT_ HW_ => ?_)
         generalize w22.drew = w23 at HB b8 b9 c1 c2 hHeld ⊢
         refine pz_ 0 27 q73_17 HT_ (by kernel_rfl) ?_
         refine pz_ 1 28 q73_18 HT_ (by kernel_rfl) ?_
         refine pz_ 3 30 q73_19 HT_ (by kernel_rfl) ?_
         refine pz_ 4 31 q73_20 HT_ (by kernel_rfl) ?_
         refine pz_ 7 34 q73_21 HT_ (by kernel_rfl) ?_
         refine pz_ 8 35 q73_22 HT_ (by kernel_rfl) ?_
         refine pz_ 11 38 q73_23 HT_ (by kernel_rfl) ?_
         refine pz_ 12 39 q73_24 HT_ (by kernel_rfl) ?_
         refine tz_ 2 29 q73_25 HT_ HW_ (by kernel_rfl) hHeld ?_
         refine tz_ 5 32 q73_26 HT_ HW_ (by kernel_rfl) hHeld ?_
         refine pz_ 6 33 q73_27 HT_ (by kernel_rfl) ?_
         refine tz_ 9 36 q73_28 HT_ HW_ (by kernel_rfl) hHeld ?_
         refine pz_ 10 37 q73_29 HT_ (by kernel_rfl) ?_
         refine tz_ 13 40 q73_30 HT_ HW_ (by kernel_rfl) hHeld ?_
         refine pz_ 14 41 q73_31 HT_ (by kernel_rfl) ?_
         refine pz_ 15 42 q73_32 HT_ (by kernel_rfl) ?_
         refine pz_ 16 8 q73_33 HT_ (by kernel_rfl) ?_
         refine done_ (done_of HT_.out (by kernel_rfl)) ?_
         have p111 : 0 ≤ (7 : Int) := (by omega); have q111 : 7 < (l0.length : Int) := of_decide_eq_true (by assumption); obtain ⟨ad111, h2, e6⟩ := yaa HR0.out 7 p111 q111; obtain rfl : ad101 = ad111 := (by injection h2)
         (try simp only [show (7 : Int).toNat = 7 from rfl, Nat.reduceMul, Nat.reduceEqDiff, Go.Addr.add, ↓reduceIte] at e6)
         have qi111 : (7 < l0.length) = True := eq_true (by omega)
         (try rw [show ((7 : Int)).toNat = 7 from rfl] at e6)
         replace e6 := (upc_ HB.out e6 :); replace p111 := eq_true p111; replace q111 := eq_true q111
         try go_wp2_with (first | ((with_reducible refine gc_ 74 rfl ?_); refine gl_ (some 54) rfl Tryd.func74 #[.int .u64 (IntKind.u64.wrap ((IntKind.u64.wrap ((IntKind.u64.wrap ((IntKind.u64.wrap ((rd l0 7) + (Go.bits .xor .u64 (Go.bits .xor .u64 f6 f7) f8))) + (Go.bits .xor .u64 (Go.bits .and .u64 (rd l0 4) (rd l0 5)) (Go.bits .and .u64 (Go.bits .xor .u64 4294967295 (rd l0 4)) (rd l0 6))))) + a1)) + a2))] ?_; (with_reducible refine (spec_l1Word.calls (IntKind.u64.wrap ((IntKind.u64.wrap ((IntKind.u64.wrap ((IntKind.u64.wrap ((rd l0 7) + (Go.bits .xor .u64 (Go.bits .xor .u64 f6 f7) f8))) + (Go.bits .xor .u64 (Go.bits .and .u64 (rd l0 4) (rd l0 5)) (Go.bits .and .u64 (Go.bits .xor .u64 4294967295 (rd l0 4)) (rd l0 6))))) + a1)) + a2)) f3 _ A11.out).mono ?_); rintro e w' ⟨rfl, ⟨nd, rfl⟩⟩; refine ⟨_, rfl, ?_⟩))
         (try (rw [drewN_self w23]; generalize hq_ : World.drewN w23 _ = w23; have n0_ : Aside0 (Below w.heap.size w w23) := ⟨by rw [← hq_]; exact (upH HB.out)⟩; clear HB hq_; have HB := n0_; clear n0_))
         replace HB := Aside0.mk (below_drew1 HB.out); have p113 : 0 ≤ (0 : Int) := (by omega); have q113 : 0 < (l0.length : Int) := of_decide_eq_true (by assumption); obtain ⟨ad113, h3, c3⟩ := yaa HR0.out 0 p113 q113; have a5 := c3
         (try rw [show ((0 : Int)).toNat = 0 from rfl] at a5)
         (try rw [show 0 * 1 = 0 from rfl] at a5)
         (try rw [Addr.add_zero'] at a5)
         obtain rfl : ad101 = ad113 := (by injection h3); have qi113 : (0 < l0.length) = True := eq_true (by omega)
         (try rw [show ((0 : Int)).toNat = 0 from rfl] at c3)
         (try rw [Addr.add_zero'] at c3)
         replace c3 := (upc_ HB.out c3 :); replace p113 := eq_true p113; replace q113 := eq_true q113; have p115 : 0 ≤ (0 : Int) := (by omega); have q115 : 0 < (l0.length : Int) := of_decide_eq_true (by assumption); obtain ⟨ad115, h4, c5⟩ := yaa HR0.out 0 p115 q115; have a6 := c5
         (try rw [show ((0 : Int)).toNat = 0 from rfl] at a6)
         (try rw [show 0 * 1 = 0 from rfl] at a6)
         (try rw [Addr.add_zero'] at a6)
         obtain rfl : ad101 = ad115 := (by injection h4); have qi115 : (0 < l0.length) = True := eq_true (by omega)
         (try rw [show ((0 : Int)).toNat = 0 from rfl] at c5)
         (try rw [Addr.add_zero'] at c5)
         replace c5 := (upc_ HB.out c5 :); replace p115 := eq_true p115; replace q115 := eq_true q115; have p117 : 0 ≤ (0 : Int) := (by omega); have q117 : 0 < (l0.length : Int) := of_decide_eq_true (by assumption); obtain ⟨ad117, h5, c6⟩ := yaa HR0.out 0 p117 q117; have a7 := c6
         (try rw [show ((0 : Int)).toNat = 0 from rfl] at a7)
         (try rw [show 0 * 1 = 0 from rfl] at a7)
         (try rw [Addr.add_zero'] at a7)
         obtain rfl : ad101 = ad117 := (by injection h5); have qi117 : (0 < l0.length) = True := eq_true (by omega)
         (try rw [show ((0 : Int)).toNat = 0 from rfl] at c6)
         (try rw [Addr.add_zero'] at c6)
         replace c6 := (upc_ HB.out c6 :); replace p117 := eq_true p117; replace q117 := eq_true q117
         refine start_ (n := 15) (S := fun w' => w'.cell? ad101 = some (.int .u64 (rd l0 0)) ∧ w'.cell? ad101 = some (.int .u64 (rd l0 0)) ∧ w'.cell? ad101 = some (.int .u64 (rd l0 0))) (ds := []) q73_0 (by kernel_rfl) rfl rfl ⟨(upc_ HB.out a5 :), (upc_ HB.out a6 :), (upc_ HB.out a7 :)⟩ (fun hHeld => ?_); refine with_tabW spec_l1Step.tab4 spec_l1Step.bits4 (fun HT_ HW_ => ?_)
         generalize w23.drew = w24 at HB c3 c5 c6 hHeld ⊢
         refine pz_ 0 55 q73_1 HT_ (by kernel_rfl) ?_
         refine pz_ 1 56 q73_2 HT_ (by kernel_rfl) ?_
         refine pz_ 4 59 q73_3 HT_ (by kernel_rfl) ?_
         refine pz_ 5 60 q73_4 HT_ (by kernel_rfl) ?_
         refine pz_ 9 64 q73_5 HT_ (by kernel_rfl) ?_
         refine pz_ 10 65 q73_6 HT_ (by kernel_rfl) ?_
         refine tz_ 2 57 q73_7 HT_ HW_ (by kernel_rfl) hHeld ?_
         refine tz_ 6 61 q73_8 HT_ HW_ (by kernel_rfl) hHeld ?_
         refine tz_ 11 66 q73_9 HT_ HW_ (by kernel_rfl) hHeld ?_
         refine one_ (i := 3) (N := some 58) q73_10 rfl rfl (one_of HT_.out (by kernel_rfl)) (by decide) (fun K hK => ?_)
         refine goes_ Tryd.func84 (by kernel_rfl) rfl #[.int .u64 (rd l0 0), .int .u64 2] (by rfl) rfl rfl (by (try simp only [List.map_toArray, List.map_cons, List.map_nil]); first | done | rfl | (simp only [List.length_drop, List.length_take]; rfl)) ?_
         with_reducible refine (spec_l1Turn.calls (rd l0 0) 2 f9 _ A13.out).mono ?_
         rintro e w' ⟨rfl, ⟨nd, rfl⟩⟩; refine ⟨_, rfl, ?_⟩
         refine hK.out _ _ ⟨(upc_ HB.out a5 :), (upc_ HB.out a6 :), (upc_ HB.out a7 :)⟩ (fun hHeld => ?_)
         clear hK K
         refine norm_ (a' := ?_) ?_ ?_
         rotate_left
         ·
          show Act.put _ (some 58) _ = _
          simp only [Act.put, List.setIfInBounds_toArray, List.set_cons_zero, List.set_cons_succ, i64_w, i32_w]
          rfl
         refine one_ (i := 7) (N := some 62) q73_11 rfl rfl (one_of HT_.out (by kernel_rfl)) (by decide) (fun K hK => ?_)
         refine goes_ Tryd.func84 (by kernel_rfl) rfl #[.int .u64 (rd l0 0), .int .u64 13] (by rfl) rfl rfl (by (try simp only [List.map_toArray, List.map_cons, List.map_nil]); first | done | rfl | (simp only [List.length_drop, List.length_take]; rfl)) ?_
         with_reducible refine (spec_l1Turn.calls (rd l0 0) 13 g0 _ A14.out).mono ?_
         rintro e w' ⟨rfl, ⟨nd, rfl⟩⟩; refine ⟨_, rfl, ?_⟩
         refine hK.out _ _ ⟨(upc_ HB.out a5 :), (upc_ HB.out a6 :), (upc_ HB.out a7 :)⟩ (fun hHeld => ?_)
         clear hK K
         refine norm_ (a' := ?_) ?_ ?_
         rotate_left
         ·
          show Act.put _ (some 62) _ = _
          simp only [Act.put, List.setIfInBounds_toArray, List.set_cons_zero, List.set_cons_succ, i64_w, i32_w]
          rfl
         refine pz_ 8 63 q73_12 HT_ (by kernel_rfl) ?_
         refine one_ (i := 12) (N := some 67) q73_13 rfl rfl (one_of HT_.out (by kernel_rfl)) (by decide) (fun K hK => ?_)
         refine goes_ Tryd.func84 (by kernel_rfl) rfl #[.int .u64 (rd l0 0), .int .u64 22] (by rfl) rfl rfl (by (try simp only [List.map_toArray, List.map_cons, List.map_nil]); first | done | rfl | (simp only [List.length_drop, List.length_take]; rfl)) ?_
         with_reducible refine (spec_l1Turn.calls (rd l0 0) 22 g1 _ A15.out).mono ?_
         rintro e w' ⟨rfl, ⟨nd, rfl⟩⟩; refine ⟨_, rfl, ?_⟩
         refine hK.out _ _ ⟨(upc_ HB.out a5 :), (upc_ HB.out a6 :), (upc_ HB.out a7 :)⟩ (fun hHeld => ?_)
         clear hK K
         refine norm_ (a' := ?_) ?_ ?_
         rotate_left
         ·
          show Act.put _ (some 67) _ = _
          simp only [Act.put, List.setIfInBounds_toArray, List.set_cons_zero, List.set_cons_succ, i64_w, i32_w]
          rfl
         refine pz_ 13 68 q73_14 HT_ (by kernel_rfl) ?_
         refine pz_ 14 10 q73_15 HT_ (by kernel_rfl) ?_
         refine done_ (done_of HT_.out (by kernel_rfl)) ?_
         try go_wp2
         (try (rw [drewN_self w24]; generalize hq_ : World.drewN w24 _ = w24; have n0_ : Aside0 (Below w.heap.size w w24) := ⟨by rw [← hq_]; exact (upH HB.out)⟩; clear HB hq_; have HB := n0_; clear n0_))
         replace HB := Aside0.mk (below_drew1 HB.out); have p119 : 0 ≤ (0 : Int) := (by omega); have q119 : 0 < (l0.length : Int) := of_decide_eq_true (by assumption); obtain ⟨ad119, h6, c7⟩ := yaa HR0.out 0 p119 q119; have e7 := c7
         (try rw [show ((0 : Int)).toNat = 0 from rfl] at e7)
         (try rw [show 0 * 1 = 0 from rfl] at e7)
         (try rw [Addr.add_zero'] at e7)
         obtain rfl : ad101 = ad119 := (by injection h6); have qi119 : (0 < l0.length) = True := eq_true (by omega)
         (try rw [show ((0 : Int)).toNat = 0 from rfl] at c7)
         (try rw [Addr.add_zero'] at c7)
         replace c7 := (upc_ HB.out c7 :); replace p119 := eq_true p119; replace q119 := eq_true q119; have p120 : 0 ≤ (1 : Int) := (by omega); have q120 : 1 < (l0.length : Int) := of_decide_eq_true (by assumption); obtain ⟨ad120, h7, d0⟩ := yaa HR0.out 1 p120 q120; have e8 := d0
         (try rw [show ((1 : Int)).toNat = 1 from rfl] at e8)
         (try rw [show 1 * 1 = 1 from rfl] at e8)
         (try simp only [Nat.reduceMul, Nat.reduceEqDiff, Go.Addr.add, ↓reduceIte] at e8)
         obtain rfl : ad101 = ad120 := (by injection h7)
         (try simp only [show (1 : Int).toNat = 1 from rfl, Nat.reduceMul, Nat.reduceEqDiff, Go.Addr.add, ↓reduceIte] at d0)
         have qi120 : (1 < l0.length) = True := eq_true (by omega)
         (try rw [show ((1 : Int)).toNat = 1 from rfl] at d0)
         replace d0 := (upc_ HB.out d0 :); replace p120 := eq_true p120; replace q120 := eq_true q120; have p121 : 0 ≤ (0 : Int) := (by omega); have q121 : 0 < (l0.length : Int) := of_decide_eq_true (by assumption); obtain ⟨ad121, h8, d1⟩ := yaa HR0.out 0 p121 q121; have e9 := d1
         (try rw [show ((0 : Int)).toNat = 0 from rfl] at e9)
         (try rw [show 0 * 1 = 0 from rfl] at e9)
         (try rw [Addr.add_zero'] at e9)
         obtain rfl : ad101 = ad121 := (by injection h8); have qi121 : (0 < l0.length) = True := eq_true (by omega)
         (try rw [show ((0 : Int)).toNat = 0 from rfl] at d1)
         (try rw [Addr.add_zero'] at d1)
         replace d1 := (upc_ HB.out d1 :); replace p121 := eq_true p121; replace q121 := eq_true q121; have p122 : 0 ≤ (2 : Int) := (by omega); have q122 : 2 < (l0.length : Int) := of_decide_eq_true (by assumption); obtain ⟨ad122, h9, d2⟩ := yaa HR0.out 2 p122 q122; have f0 := d2
         (try rw [show ((2 : Int)).toNat = 2 from rfl] at f0)
         (try rw [show 2 * 1 = 2 from rfl] at f0)
         (try simp only [Nat.reduceMul, Nat.reduceEqDiff, Go.Addr.add, ↓reduceIte] at f0)
         obtain rfl : ad101 = ad122 := (by injection h9)
         (try simp only [show (2 : Int).toNat = 2 from rfl, Nat.reduceMul, Nat.reduceEqDiff, Go.Addr.add, ↓reduceIte] at d2)
         have qi122 : (2 < l0.length) = True := eq_true (by omega)
         (try rw [show ((2 : Int)).toNat = 2 from rfl] at d2)
         replace d2 := (upc_ HB.out d2 :); replace p122 := eq_true p122; replace q122 := eq_true q122; have p123 : 0 ≤ (1 : Int) := (by omega); have q123 : 1 < (l0.length : Int) := of_decide_eq_true (by assumption); obtain ⟨ad123, i0, d3⟩ := yaa HR0.out 1 p123 q123; have f1 := d3
         (try rw [show ((1 : Int)).toNat = 1 from rfl] at f1)
         (try rw [show 1 * 1 = 1 from rfl] at f1)
         (try simp only [Nat.reduceMul, Nat.reduceEqDiff, Go.Addr.add, ↓reduceIte] at f1)
         obtain rfl : ad101 = ad123 := (by injection i0)
         (try simp only [show (1 : Int).toNat = 1 from rfl, Nat.reduceMul, Nat.reduceEqDiff, Go.Addr.add, ↓reduceIte] at d3)
         have qi123 : (1 < l0.length) = True := eq_true (by omega)
         (try rw [show ((1 : Int)).toNat = 1 from rfl] at d3)
         replace d3 := (upc_ HB.out d3 :); replace p123 := eq_true p123; replace q123 := eq_true q123; have p124 : 0 ≤ (2 : Int) := (by omega); have q124 : 2 < (l0.length : Int) := of_decide_eq_true (by assumption); obtain ⟨ad124, i1, d4⟩ := yaa HR0.out 2 p124 q124; have f2 := d4
         (try rw [show ((2 : Int)).toNat = 2 from rfl] at f2)
         (try rw [show 2 * 1 = 2 from rfl] at f2)
         (try simp only [Nat.reduceMul, Nat.reduceEqDiff, Go.Addr.add, ↓reduceIte] at f2)
         obtain rfl : ad101 = ad124 := (by injection i1)
         (try simp only [show (2 : Int).toNat = 2 from rfl, Nat.reduceMul, Nat.reduceEqDiff, Go.Addr.add, ↓reduceIte] at d4)
         have qi124 : (2 < l0.length) = True := eq_true (by omega)
         (try rw [show ((2 : Int)).toNat = 2 from rfl] at d4)
         replace d4 := (upc_ HB.out d4 :); replace p124 := eq_true p124; replace q124 := eq_true q124
         refine start_ (n := 24) (S := fun w' => w'.cell? ad101 = some (.int .u64 (rd l0 0)) ∧ w'.cell? ⟨ad101.block, ad101.off + 1, none⟩ = some (.int .u64 (rd l0 1)) ∧ w'.cell? ad101 = some (.int .u64 (rd l0 0)) ∧ w'.cell? ⟨ad101.block, ad101.off + 2, none⟩ = some (.int .u64 (rd l0 2)) ∧ w'.cell? ⟨ad101.block, ad101.off + 1, none⟩ = some (.int .u64 (rd l0 1)) ∧ w'.cell? ⟨ad101.block, ad101.off + 2, none⟩ = some (.int .u64 (rd l0 2))) (ds := []) q73_34 (by kernel_rfl) rfl rfl ⟨(upc_ HB.out e7 :), (upc_ HB.out e8 :), (upc_ HB.out e9 :), (upc_ HB.out f0 :), (upc_ HB.out f1 :), (upc_ HB.out f2 :)⟩ (fun hHeld => ?_); refine with_tabW spec_l1Step.tab5 spec_l1Step.bits5 (fun HT_ HW_ => ?_)
         generalize w24.drew = w25 at HB c7 d0 d1 d2 d3 d4 hHeld ⊢
         refine pz_ 0 69 q73_35 HT_ (by kernel_rfl) ?_
         refine pz_ 1 70 q73_36 HT_ (by kernel_rfl) ?_
         refine pz_ 3 72 q73_37 HT_ (by kernel_rfl) ?_
         refine pz_ 4 73 q73_38 HT_ (by kernel_rfl) ?_
         refine pz_ 7 76 q73_39 HT_ (by kernel_rfl) ?_
         refine pz_ 8 77 q73_40 HT_ (by kernel_rfl) ?_
         refine pz_ 10 79 q73_41 HT_ (by kernel_rfl) ?_
         refine pz_ 11 80 q73_42 HT_ (by kernel_rfl) ?_
         refine pz_ 15 84 q73_43 HT_ (by kernel_rfl) ?_
         refine pz_ 16 85 q73_44 HT_ (by kernel_rfl) ?_
         refine pz_ 18 87 q73_45 HT_ (by kernel_rfl) ?_
         refine pz_ 19 88 q73_46 HT_ (by kernel_rfl) ?_
         refine tz_ 2 71 q73_47 HT_ HW_ (by kernel_rfl) hHeld ?_
         refine tz_ 5 74 q73_48 HT_ HW_ (by kernel_rfl) hHeld ?_
         refine pz_ 6 75 q73_49 HT_ (by kernel_rfl) ?_
         refine tz_ 9 78 q73_50 HT_ HW_ (by kernel_rfl) hHeld ?_
         refine tz_ 12 81 q73_51 HT_ HW_ (by kernel_rfl) hHeld ?_
         refine pz_ 13 82 q73_52 HT_ (by kernel_rfl) ?_
         refine pz_ 14 83 q73_53 HT_ (by kernel_rfl) ?_
         refine tz_ 17 86 q73_54 HT_ HW_ (by kernel_rfl) hHeld ?_
         refine tz_ 20 89 q73_55 HT_ HW_ (by kernel_rfl) hHeld ?_
         refine pz_ 21 90 q73_56 HT_ (by kernel_rfl) ?_
         refine pz_ 22 91 q73_57 HT_ (by kernel_rfl) ?_
         refine pz_ 23 11 q73_58 HT_ (by kernel_rfl) ?_
         refine done_ (done_of HT_.out (by kernel_rfl)) ?_
         try go_wp2_with (first | ((with_reducible refine gc_ 74 rfl ?_); refine gl_ (some 95) rfl Tryd.func74 #[.int .u64 (IntKind.u64.wrap ((Go.bits .xor .u64 (Go.bits .xor .u64 f9 g0) g1) + (Go.bits .xor .u64 (Go.bits .xor .u64 (Go.bits .and .u64 (rd l0 0) (rd l0 1)) (Go.bits .and .u64 (rd l0 0) (rd l0 2))) (Go.bits .and .u64 (rd l0 1) (rd l0 2)))))] ?_; (with_reducible refine (spec_l1Word.calls (IntKind.u64.wrap ((Go.bits .xor .u64 (Go.bits .xor .u64 f9 g0) g1) + (Go.bits .xor .u64 (Go.bits .xor .u64 (Go.bits .and .u64 (rd l0 0) (rd l0 1)) (Go.bits .and .u64 (rd l0 0) (rd l0 2))) (Go.bits .and .u64 (rd l0 1) (rd l0 2))))) g2 _ A18.out).mono ?_); rintro e w' ⟨rfl, ⟨nd, rfl⟩⟩; refine ⟨_, rfl, ?_⟩))
         (try (rw [drewN_self w25]; generalize hq_ : World.drewN w25 _ = w25; have n0_ : Aside0 (Below w.heap.size w w25) := ⟨by rw [← hq_]; exact (upH HB.out)⟩; clear HB hq_; have HB := n0_; clear n0_))
         replace HB := Aside0.mk (below_drew1 HB.out); have p127 : 0 ≤ (0 : Int) := (by omega); have q127 : 0 < (l0.length : Int) := of_decide_eq_true (by assumption); obtain ⟨ad127, i2, d5⟩ := yaa HR0.out 0 p127 q127; have a8 := d5
         (try rw [show ((0 : Int)).toNat = 0 from rfl] at a8)
         (try rw [show 0 * 1 = 0 from rfl] at a8)
         (try rw [Addr.add_zero'] at a8)
         obtain rfl : ad101 = ad127 := (by injection i2); have qi127 : (0 < l0.length) = True := eq_true (by omega)
         (try rw [show ((0 : Int)).toNat = 0 from rfl] at d5)
         (try rw [Addr.add_zero'] at d5)
         replace d5 := (upc_ HB.out d5 :); replace p127 := eq_true p127; replace q127 := eq_true q127; have p128 : 0 ≤ (1 : Int) := (by omega); have q128 : 1 < (l0.length : Int) := of_decide_eq_true (by assumption); obtain ⟨ad128, i3, d6⟩ := yaa HR0.out 1 p128 q128; have a9 := d6
         (try rw [show ((1 : Int)).toNat = 1 from rfl] at a9)
         (try rw [show 1 * 1 = 1 from rfl] at a9)
         (try simp only [Nat.reduceMul, Nat.reduceEqDiff, Go.Addr.add, ↓reduceIte] at a9)
         obtain rfl : ad101 = ad128 := (by injection i3)
         (try simp only [show (1 : Int).toNat = 1 from rfl, Nat.reduceMul, Nat.reduceEqDiff, Go.Addr.add, ↓reduceIte] at d6)
         have qi128 : (1 < l0.length) = True := eq_true (by omega)
         (try rw [show ((1 : Int)).toNat = 1 from rfl] at d6)
         replace d6 := (upc_ HB.out d6 :); replace p128 := eq_true p128; replace q128 := eq_true q128; have p129 : 0 ≤ (2 : Int) := (by omega); have q129 : 2 < (l0.length : Int) := of_decide_eq_true (by assumption); obtain ⟨ad129, i4, d7⟩ := yaa HR0.out 2 p129 q129; have b0 := d7
         (try rw [show ((2 : Int)).toNat = 2 from rfl] at b0)
         (try rw [show 2 * 1 = 2 from rfl] at b0)
         (try simp only [Nat.reduceMul, Nat.reduceEqDiff, Go.Addr.add, ↓reduceIte] at b0)
         obtain rfl : ad101 = ad129 := (by injection i4)
         (try simp only [show (2 : Int).toNat = 2 from rfl, Nat.reduceMul, Nat.reduceEqDiff, Go.Addr.add, ↓reduceIte] at d7)
         have qi129 : (2 < l0.length) = True := eq_true (by omega)
         (try rw [show ((2 : Int)).toNat = 2 from rfl] at d7)
         replace d7 := (upc_ HB.out d7 :); replace p129 := eq_true p129; replace q129 := eq_true q129; have p130 : 0 ≤ (3 : Int) := (by omega); have q130 : 3 < (l0.length : Int) := of_decide_eq_true (by assumption); obtain ⟨ad130, i5, d8⟩ := yaa HR0.out 3 p130 q130; have b1 := d8
         (try rw [show ((3 : Int)).toNat = 3 from rfl] at b1)
         (try rw [show 3 * 1 = 3 from rfl] at b1)
         (try simp only [Nat.reduceMul, Nat.reduceEqDiff, Go.Addr.add, ↓reduceIte] at b1)
         obtain rfl : ad101 = ad130 := (by injection i5)
         (try simp only [show (3 : Int).toNat = 3 from rfl, Nat.reduceMul, Nat.reduceEqDiff, Go.Addr.add, ↓reduceIte] at d8)
         have qi130 : (3 < l0.length) = True := eq_true (by omega)
         (try rw [show ((3 : Int)).toNat = 3 from rfl] at d8)
         replace d8 := (upc_ HB.out d8 :); replace p130 := eq_true p130; replace q130 := eq_true q130; have p132 : 0 ≤ (4 : Int) := (by omega); have q132 : 4 < (l0.length : Int) := of_decide_eq_true (by assumption); obtain ⟨ad132, i6, d9⟩ := yaa HR0.out 4 p132 q132; have b2 := d9
         (try rw [show ((4 : Int)).toNat = 4 from rfl] at b2)
         (try rw [show 4 * 1 = 4 from rfl] at b2)
         (try simp only [Nat.reduceMul, Nat.reduceEqDiff, Go.Addr.add, ↓reduceIte] at b2)
         obtain rfl : ad101 = ad132 := (by injection i6)
         (try simp only [show (4 : Int).toNat = 4 from rfl, Nat.reduceMul, Nat.reduceEqDiff, Go.Addr.add, ↓reduceIte] at d9)
         have qi132 : (4 < l0.length) = True := eq_true (by omega)
         (try rw [show ((4 : Int)).toNat = 4 from rfl] at d9)
         replace d9 := (upc_ HB.out d9 :); replace p132 := eq_true p132; replace q132 := eq_true q132; have p133 : 0 ≤ (5 : Int) := (by omega); have q133 : 5 < (l0.length : Int) := of_decide_eq_true (by assumption); obtain ⟨ad133, i7, e0⟩ := yaa HR0.out 5 p133 q133; have b3 := e0
         (try rw [show ((5 : Int)).toNat = 5 from rfl] at b3)
         (try rw [show 5 * 1 = 5 from rfl] at b3)
         (try simp only [Nat.reduceMul, Nat.reduceEqDiff, Go.Addr.add, ↓reduceIte] at b3)
         obtain rfl : ad101 = ad133 := (by injection i7)
         (try simp only [show (5 : Int).toNat = 5 from rfl, Nat.reduceMul, Nat.reduceEqDiff, Go.Addr.add, ↓reduceIte] at e0)
         have qi133 : (5 < l0.length) = True := eq_true (by omega)
         (try rw [show ((5 : Int)).toNat = 5 from rfl] at e0)
         replace e0 := (upc_ HB.out e0 :); replace p133 := eq_true p133; replace q133 := eq_true q133; have p134 : 0 ≤ (6 : Int) := (by omega); have q134 : 6 < (l0.length : Int) := of_decide_eq_true (by assumption); obtain ⟨ad134, i8, e1⟩ := yaa HR0.out 6 p134 q134; have b4 := e1
         (try rw [show ((6 : Int)).toNat = 6 from rfl] at b4)
         (try rw [show 6 * 1 = 6 from rfl] at b4)
         (try simp only [Nat.reduceMul, Nat.reduceEqDiff, Go.Addr.add, ↓reduceIte] at b4)
         obtain rfl : ad101 = ad134 := (by injection i8)
         (try simp only [show (6 : Int).toNat = 6 from rfl, Nat.reduceMul, Nat.reduceEqDiff, Go.Addr.add, ↓reduceIte] at e1)
         have qi134 : (6 < l0.length) = True := eq_true (by omega)
         (try rw [show ((6 : Int)).toNat = 6 from rfl] at e1)
         replace e1 := (upc_ HB.out e1 :); replace p134 := eq_true p134; replace q134 := eq_true q134
         refine start_ (n := 30) (S := fun w' => w'.cell? ad101 = some (.int .u64 (rd l0 0)) ∧ w'.cell? ⟨ad101.block, ad101.off + 1, none⟩ = some (.int .u64 (rd l0 1)) ∧ w'.cell? ⟨ad101.block, ad101.off + 2, none⟩ = some (.int .u64 (rd l0 2)) ∧ w'.cell? ⟨ad101.block, ad101.off + 3, none⟩ = some (.int .u64 (rd l0 3)) ∧ w'.cell? ⟨ad101.block, ad101.off + 4, none⟩ = some (.int .u64 (rd l0 4)) ∧ w'.cell? ⟨ad101.block, ad101.off + 5, none⟩ = some (.int .u64 (rd l0 5)) ∧ w'.cell? ⟨ad101.block, ad101.off + 6, none⟩ = some (.int .u64 (rd l0 6))) (ds := []) q73_59 (by kernel_rfl) rfl rfl ⟨(upc_ HB.out a8 :), (upc_ HB.out a9 :), (upc_ HB.out b0 :), (upc_ HB.out b1 :), (upc_ HB.out b2 :), (upc_ HB.out b3 :), (upc_ HB.out b4 :)⟩ (fun hHeld => ?_); refine with_tabW spec_l1Step.tab7 spec_l1Step.bits7 (fun HT_ HW_ => ?_)
         generalize w25.drew = w26 at HB d5 d6 d7 d8 d9 e0 e1 hHeld ⊢
         refine pz_ 0 96 q73_60 HT_ (by kernel_rfl) ?_
         refine pz_ 1 97 q73_61 HT_ (by kernel_rfl) ?_
         refine pz_ 2 98 q73_62 HT_ (by kernel_rfl) ?_
         refine pz_ 4 100 q73_63 HT_ (by kernel_rfl) ?_
         refine pz_ 5 101 q73_64 HT_ (by kernel_rfl) ?_
         refine pz_ 7 103 q73_65 HT_ (by kernel_rfl) ?_
         refine pz_ 8 104 q73_66 HT_ (by kernel_rfl) ?_
         refine pz_ 10 106 q73_67 HT_ (by kernel_rfl) ?_
         refine pz_ 11 107 q73_68 HT_ (by kernel_rfl) ?_
         refine pz_ 13 109 q73_69 HT_ (by kernel_rfl) ?_
         refine pz_ 14 110 q73_70 HT_ (by kernel_rfl) ?_
         refine pz_ 16 112 q73_71 HT_ (by kernel_rfl) ?_
         refine pz_ 19 115 q73_72 HT_ (by kernel_rfl) ?_
         refine pz_ 20 116 q73_73 HT_ (by kernel_rfl) ?_
         refine pz_ 22 118 q73_74 HT_ (by kernel_rfl) ?_
         refine pz_ 23 119 q73_75 HT_ (by kernel_rfl) ?_
         refine pz_ 25 121 q73_76 HT_ (by kernel_rfl) ?_
         refine pz_ 26 122 q73_77 HT_ (by kernel_rfl) ?_
         refine tz_ 6 102 q73_78 HT_ HW_ (by kernel_rfl) hHeld ?_
         refine tz_ 9 105 q73_79 HT_ HW_ (by kernel_rfl) hHeld ?_
         refine tz_ 12 108 q73_80 HT_ HW_ (by kernel_rfl) hHeld ?_
         refine tz_ 15 111 q73_81 HT_ HW_ (by kernel_rfl) hHeld ?_
         refine pz_ 17 113 q73_82 HT_ (by kernel_rfl) ?_
         refine tz_ 21 117 q73_83 HT_ HW_ (by kernel_rfl) hHeld ?_
         refine tz_ 24 120 q73_84 HT_ HW_ (by kernel_rfl) hHeld ?_
         refine tz_ 27 123 q73_85 HT_ HW_ (by kernel_rfl) hHeld ?_
         refine one_ (i := 3) (N := some 99) q73_86 rfl rfl (one_of HT_.out (by kernel_rfl)) (by decide) (fun K hK => ?_)
         refine goes_ Tryd.func74 (by kernel_rfl) rfl #[.int .u64 (IntKind.u64.wrap (f3 + g2))] (by rfl) rfl rfl (by (try simp only [List.map_toArray, List.map_cons, List.map_nil]); first | done | rfl | (simp only [List.length_drop, List.length_take]; rfl)) ?_
         with_reducible refine (spec_l1Word.calls (IntKind.u64.wrap (f3 + g2)) f4 _ A19.out).mono ?_
         rintro e w' ⟨rfl, ⟨nd, rfl⟩⟩; refine ⟨_, rfl, ?_⟩
         refine hK.out _ _ ⟨(upc_ HB.out a8 :), (upc_ HB.out a9 :), (upc_ HB.out b0 :), (upc_ HB.out b1 :), (upc_ HB.out b2 :), (upc_ HB.out b3 :), (upc_ HB.out b4 :)⟩ (fun hHeld => ?_)
         clear hK K
         refine norm_ (a' := ?_) ?_ ?_
         rotate_left
         ·
          show Act.put _ (some 99) _ = _
          simp only [Act.put, List.setIfInBounds_toArray, List.set_cons_zero, List.set_cons_succ, i64_w, i32_w]
          rfl
         refine one_ (i := 18) (N := some 114) q73_87 rfl rfl (one_of HT_.out (by kernel_rfl)) (by decide) (fun K hK => ?_)
         refine goes_ Tryd.func74 (by kernel_rfl) rfl #[.int .u64 (IntKind.u64.wrap ((rd l0 3) + f3))] (by rfl) rfl rfl (by (try simp only [List.map_toArray, List.map_cons, List.map_nil]); first | done | rfl | (simp only [List.length_drop, List.length_take]; rfl)) ?_
         with_reducible refine (spec_l1Word.calls (IntKind.u64.wrap ((rd l0 3) + f3)) f5 _ A21.out).mono ?_
         rintro e w' ⟨rfl, ⟨nd, rfl⟩⟩; refine ⟨_, rfl, ?_⟩
         refine hK.out _ _ ⟨(upc_ HB.out a8 :), (upc_ HB.out a9 :), (upc_ HB.out b0 :), (upc_ HB.out b1 :), (upc_ HB.out b2 :), (upc_ HB.out b3 :), (upc_ HB.out b4 :)⟩ (fun hHeld => ?_)
         clear hK K
         refine norm_ (a' := ?_) ?_ ?_
         rotate_left
         ·
          show Act.put _ (some 114) _ = _
          simp only [Act.put, List.setIfInBounds_toArray, List.set_cons_zero, List.set_cons_succ, i64_w, i32_w]
          rfl
         refine one_ (i := 28) (N := some 124) q73_88 rfl rfl (one_of HT_.out (by kernel_rfl)) (by decide) (fun K hK => ?_)
         refine Kd.R_lit_step (Kd.int .u64) _ 103 ?hg (N := 124) ?hd (xs := ([f4, rd l0 0, rd l0 1, rd l0 2, f5, rd l0 4, rd l0 5, rd l0 6] : List Int)) (inner := [.int .u64 f4, .int .u64 (rd l0 0), .int .u64 (rd l0 1), .int .u64 (rd l0 2), .int .u64 f5, .int .u64 (rd l0 4), .int .u64 (rd l0 5), .int .u64 (rd l0 6)]) (ok := fun _ => True) (okp := fun _ => True) ?hr ?hp (fun _ hk => hk) trivial (Below.refl _ _) (Nat.le_refl _) (by simp) ?_; (case hd => rfl); (case hg => rfl); (case hr => first | (go_simp; done) | (go_simp; rfl)); (case hp => exact (Reps.one (show Kd.M (Kd.int .u64) _ _ _ f4 [.int .u64 f4] from rfl) (Reps.one (show Kd.M (Kd.int .u64) _ _ _ (rd l0 0) [.int .u64 (rd l0 0)] from rfl) (Reps.one (show Kd.M (Kd.int .u64) _ _ _ (rd l0 1) [.int .u64 (rd l0 1)] from rfl) (Reps.one (show Kd.M (Kd.int .u64) _ _ _ (rd l0 2) [.int .u64 (rd l0 2)] from rfl) (Reps.one (show Kd.M (Kd.int .u64) _ _ _ f5 [.int .u64 f5] from rfl) (Reps.one (show Kd.M (Kd.int .u64) _ _ _ (rd l0 4) [.int .u64 (rd l0 4)] from rfl) (Reps.one (show Kd.M (Kd.int .u64) _ _ _ (rd l0 5) [.int .u64 (rd l0 5)] from rfl) (Reps.one (show Kd.M (Kd.int .u64) _ _ _ (rd l0 6) [.int .u64 (rd l0 6)] from rfl) (Reps.none _ _))))))))))
         intro k5 w27 g3 hb hg_ hnew_; clear hg_ hnew_
         (first | rw [← Ny135.out] at g3 | (simp only [Int.reduceToNat] at g3; rw [← Ny135.out] at g3))
         have g4 := Aside0.mk (Kd.R_lower g3 (below_size (upH HB.out))); replace HB := Aside0.mk (below_step (upH HB.out) hb); clear hb g3
         refine hK.out _ _ ⟨(upc_ HB.out a8 :), (upc_ HB.out a9 :), (upc_ HB.out b0 :), (upc_ HB.out b1 :), (upc_ HB.out b2 :), (upc_ HB.out b3 :), (upc_ HB.out b4 :)⟩ (fun hHeld => ?_)
         clear hK K
         refine norm_ (a' := ?_) ?_ ?_
         rotate_left
         ·
          show Act.put _ (some 124) _ = _
          simp only [Act.put, List.setIfInBounds_toArray, List.set_cons_zero, List.set_cons_succ, i64_w, i32_w]
          rfl
         refine pz_ 29 6 q73_89 HT_ (by kernel_rfl) ?_
         refine done_ (done_of HT_.out (by kernel_rfl)) ?_
         try go_wp2
         go_ret
         exact ⟨_, by first | rfl | (simp [*, errW_none, errW_some] <;> rfl), by first | exact g4.out | exact upR g4.out, upH HB.out⟩
        ·
         rw [if_neg c20] at H
         exact absurd H (by simp)
       ·
        rw [if_neg c17] at H
        exact absurd H (by simp)
      ·
       rw [if_neg c16] at H
       exact absurd H (by simp)
     ·
      rw [if_neg c12] at H
      exact absurd H (by simp)
    ·
     rw [if_neg c10] at H
     exact absurd H (by simp)
   ·
    rw [if_neg c9] at H
    exact absurd H (by simp)
  ·
   rw [if_neg c8] at H
   exact absurd H (by simp)
 ·
  rw [if_neg c4] at H
  exact absurd H (by simp)
end
section
open Go.Proofs.YtmbkhindhndccaaDoorW.PrintWords.Aside0 renaming mk → yaa
open Go.Proofs.YtmbkhindhndccaaDoorW.PrintWords.Kd renaming R_drew → yab, R_alloc → yac, R_drewN → yad, R_mono → yae, R_reads' → yaf, int → yag, R_elder' → yai
open Go.Proofs.YtmbkhindhndccaaDoorW.PrintWords renaming Aside0 → yah

abbrev q60_0 : Array Bool := Array.replicate 11 false
abbrev q60_1 : Array Bool := #[true, false, false, false, false, false, false, false, false, false, false]
abbrev q60_2 : Array Bool := #[true, true, false, false, false, false, false, false, false, false, false]
abbrev q60_3 : Array Bool := #[true, true, true, false, false, false, false, false, false, false, false]
abbrev q60_4 : Array Bool := #[true, true, true, true, false, false, false, false, false, false, false]
abbrev q60_5 : Array Bool := #[true, true, true, true, false, true, false, false, false, false, false]
abbrev q60_6 : Array Bool := #[true, true, true, true, false, true, true, false, false, false, false]
abbrev q60_7 : Array Bool := #[true, true, true, true, false, true, true, true, false, false, false]
abbrev q60_8 : Array Bool := #[true, true, true, true, true, true, true, true, false, false, false]
abbrev q60_9 : Array Bool := #[true, true, true, true, true, true, true, true, true, false, false]
abbrev q60_10 : Array Bool := #[true, true, true, true, true, true, true, true, true, true, false]
abbrev q60_11 : Array Bool := #[true, true, true, true, true, true, true, true, true, true, true]
abbrev q60_12 : Array Bool := Array.replicate 14 false
abbrev q60_13 : Array Bool := bl_ 14 1
abbrev q60_14 : Array Bool := bl_ 14 3
abbrev q60_15 : Array Bool := bl_ 14 7
abbrev q60_16 : Array Bool := bl_ 14 15
abbrev q60_17 : Array Bool := bl_ 14 31
abbrev q60_18 : Array Bool := bl_ 14 95
abbrev q60_19 : Array Bool := bl_ 14 223
abbrev q60_20 : Array Bool := bl_ 14 479
abbrev q60_21 : Array Bool := bl_ 14 511
abbrev q60_22 : Array Bool := bl_ 14 1023
abbrev q60_23 : Array Bool := bl_ 14 2047
abbrev q60_24 : Array Bool := bl_ 14 4095
abbrev q60_25 : Array Bool := bl_ 14 8191
abbrev q60_26 : Array Bool := bl_ 14 16383
abbrev q60_27 : Array Bool := Array.replicate 27 false
abbrev q60_28 : Array Bool := bl_ 27 1
abbrev q60_29 : Array Bool := bl_ 27 3
abbrev q60_30 : Array Bool := bl_ 27 7
abbrev q60_31 : Array Bool := bl_ 27 15
abbrev q60_32 : Array Bool := bl_ 27 143
abbrev q60_33 : Array Bool := bl_ 27 399
abbrev q60_34 : Array Bool := bl_ 27 911
abbrev q60_35 : Array Bool := bl_ 27 9103
abbrev q60_36 : Array Bool := bl_ 27 25487
abbrev q60_37 : Array Bool := bl_ 27 58255
abbrev q60_38 : Array Bool := bl_ 27 582543
abbrev q60_39 : Array Bool := bl_ 27 1631119
abbrev q60_40 : Array Bool := bl_ 27 3728271
abbrev q60_41 : Array Bool := bl_ 27 3728287
abbrev q60_42 : Array Bool := bl_ 27 3728319
abbrev q60_43 : Array Bool := bl_ 27 3728383
abbrev q60_44 : Array Bool := bl_ 27 3729407
abbrev q60_45 : Array Bool := bl_ 27 3731455
abbrev q60_46 : Array Bool := bl_ 27 3735551
abbrev q60_47 : Array Bool := bl_ 27 3801087
abbrev q60_48 : Array Bool := bl_ 27 3932159
abbrev q60_49 : Array Bool := bl_ 27 4194303
abbrev q60_50 : Array Bool := bl_ 27 8388607
abbrev q60_51 : Array Bool := bl_ 27 16777215
abbrev q60_52 : Array Bool := bl_ 27 33554431
abbrev q60_53 : Array Bool := bl_ 27 67108863
abbrev q60_54 : Array Bool := bl_ 27 134217727
mutual
def spec_l1Sum.l0 : Nat → List Int → List Int → List Int → Int → Option (List Int)
 | 0, _, _, _, _ => none
 | k + 1, x0, x3, x4, x5 => if x5 < 8 then (if 0 ≤ x5 then (if x5 < (x3.length : Int) then ((spec_l1Root.f k (rd x3 x5) 2).bind fun t108 => (if x4.length < 17592186044416 then (spec_l1Sum.l0 k x0 x3 (x4 ++ [t108]) (wrap64 (x5 + 1))) else (none))) else (none)) else (none)) else ((spec_l1Whole.f k x0).bind fun t112 => (spec_l1Sum.l1 k x3 x4 t112 (([] : List Int)) 0))
def spec_l1Sum.l1 : Nat → List Int → List Int → List Int → List Int → Int → Option (List Int)
 | 0, _, _, _, _, _ => none
 | k + 1, x3, x4, x6, x7, x8 => if x8 < 64 then (if 0 ≤ x8 then (if x8 < (x3.length : Int) then ((spec_l1Root.f k (rd x3 x8) 3).bind fun t119 => (if x7.length < 17592186044416 then (spec_l1Sum.l1 k x3 x4 x6 (x7 ++ [t119]) (wrap64 (x8 + 1))) else (none))) else (none)) else (none)) else (spec_l1Sum.l2 k x4 x6 x7 0)
def spec_l1Sum.l2 : Nat → List Int → List Int → List Int → Int → Option (List Int)
 | 0, _, _, _, _ => none
 | k + 1, x4, x6, x7, x9 => if x9 < (x6.length : Int) then (if 0 ≤ x9 then (if x9 ≤ (wrap64 (x9 + 64)) then (if (wrap64 (x9 + 64)) ≤ (x6.length : Int) then ((spec_l1Words.f k ((x6.take ((wrap64 (x9 + 64)) : Int).toNat).drop (x9 : Int).toNat)).bind fun t127 => ((some (([] : List Int) : List Int)).bind fun y130 => (if y130.length + x4.length < 17592186044416 then (spec_l1Sum.l3 k x4 x6 x7 x9 t127 (y130 ++ x4) 0) else (none)))) else (none)) else (none)) else (none)) else (spec_l1Sum.l5 k x4 (([] : List Int)) 0)
def spec_l1Sum.l3 : Nat → List Int → List Int → List Int → Int → List Int → List Int → Int → Option (List Int)
 | 0, _, _, _, _, _, _, _ => none
 | k + 1, x4, x6, x7, x9, x10, x11, x12 => if x12 < 64 then (if 0 ≤ x12 then (if x12 < (x7.length : Int) then (if x12 < (x10.length : Int) then ((spec_l1Step.f x11 (rd x7 x12) (rd x10 x12)).bind fun t138 => (spec_l1Sum.l3 k x4 x6 x7 x9 x10 t138 (wrap64 (x12 + 1)))) else (none)) else (none)) else (none)) else (spec_l1Sum.l4 k x4 x6 x7 x9 x11 0)
def spec_l1Sum.l4 : Nat → List Int → List Int → List Int → Int → List Int → Int → Option (List Int)
 | 0, _, _, _, _, _, _ => none
 | k + 1, x4, x6, x7, x9, x11, x13 => if x13 < 8 then (if 0 ≤ x13 then (if x13 < (x4.length : Int) then (if x13 < (x11.length : Int) then ((spec_l1Word.f (IntKind.u64.wrap ((rd x4 x13) + (rd x11 x13)))).bind fun t143 => (spec_l1Sum.l4 k (x4.set (x13 : Int).toNat t143) x6 x7 x9 x11 (wrap64 (x13 + 1)))) else (none)) else (none)) else (none)) else (spec_l1Sum.l2 k x4 x6 x7 (wrap64 (x9 + 64)))
def spec_l1Sum.l5 : Nat → List Int → List Int → Int → Option (List Int)
 | 0, _, _, _ => none
 | k + 1, x4, x14, x15 => if x15 < 8 then (if 0 ≤ x15 then (if x15 < (x4.length : Int) then ((some (([((rd x4 x15) / 16777216) % 256, ((rd x4 x15) / 65536) % 256, ((rd x4 x15) / 256) % 256, (rd x4 x15) % 256] : List Int) : List Int)).bind fun y152 => (if x14.length + y152.length < 140737488355328 then (spec_l1Sum.l5 k x4 (x14 ++ y152) (wrap64 (x15 + 1))) else (none))) else (none)) else (none)) else (some x14)
end
def spec_l1Sum.f (k : Nat) (l0 : List Int) : Option (List Int) := (spec_l1Primes.f k 64).bind fun t101 => (spec_l1Sum.l0 k l0 t101 (([] : List Int)) 0)
theorem spec_l1Sum.mono_l : ∀ k, (∀ y0 y1 y2 y3, LeO (spec_l1Sum.l0 k y0 y1 y2 y3) (spec_l1Sum.l0 (k + 1) y0 y1 y2 y3)) ∧ (∀ y0 y1 y2 y3 y4, LeO (spec_l1Sum.l1 k y0 y1 y2 y3 y4) (spec_l1Sum.l1 (k + 1) y0 y1 y2 y3 y4)) ∧ (∀ y0 y1 y2 y3, LeO (spec_l1Sum.l2 k y0 y1 y2 y3) (spec_l1Sum.l2 (k + 1) y0 y1 y2 y3)) ∧ (∀ y0 y1 y2 y3 y4 y5 y6, LeO (spec_l1Sum.l3 k y0 y1 y2 y3 y4 y5 y6) (spec_l1Sum.l3 (k + 1) y0 y1 y2 y3 y4 y5 y6)) ∧ (∀ y0 y1 y2 y3 y4 y5, LeO (spec_l1Sum.l4 k y0 y1 y2 y3 y4 y5) (spec_l1Sum.l4 (k + 1) y0 y1 y2 y3 y4 y5)) ∧ (∀ y0 y1 y2, LeO (spec_l1Sum.l5 k y0 y1 y2) (spec_l1Sum.l5 (k + 1) y0 y1 y2))
 | 0 => ⟨fun _ _ _ _ r h => by simp [spec_l1Sum.l0] at h, fun _ _ _ _ _ r h => by simp [spec_l1Sum.l1] at h, fun _ _ _ _ r h => by simp [spec_l1Sum.l2] at h, fun _ _ _ _ _ _ _ r h => by simp [spec_l1Sum.l3] at h, fun _ _ _ _ _ _ r h => by simp [spec_l1Sum.l4] at h, fun _ _ _ r h => by simp [spec_l1Sum.l5] at h⟩
 | k + 1 => by
  obtain ⟨ih0, ih1, ih2, ih3, ih4, ih5⟩ := spec_l1Sum.mono_l k
  refine ⟨?_, ?_, ?_, ?_, ?_, ?_⟩
  ·
   intro y0 y1 y2 y3
   unfold spec_l1Sum.l0
   repeat' first | (with_reducible first | exact ih0 .. | exact ih1 .. | exact ih2 .. | exact ih3 .. | exact ih4 .. | exact ih5 .. | exact spec_l1Primes.mono .. | exact spec_l1Root.mono .. | exact spec_l1Whole.mono .. | exact spec_l1Words.mono .. | exact LeO.refl .. | exact LeO.none .. | refine LeO.ite ?_ ?_ | refine LeO.bind ?_ (fun _ => ?_)) | exact ih0 .. | exact ih1 .. | exact ih2 .. | exact ih3 .. | exact ih4 .. | exact ih5 .. | exact spec_l1Primes.mono .. | exact spec_l1Root.mono .. | exact spec_l1Whole.mono .. | exact spec_l1Words.mono .. | exact LeO.none .. | refine LeO.ite ?_ ?_ | refine LeO.bind ?_ (fun _ => ?_)
  ·
   intro y0 y1 y2 y3 y4
   unfold spec_l1Sum.l1
   repeat' first | (with_reducible first | exact ih0 .. | exact ih1 .. | exact ih2 .. | exact ih3 .. | exact ih4 .. | exact ih5 .. | exact spec_l1Primes.mono .. | exact spec_l1Root.mono .. | exact spec_l1Whole.mono .. | exact spec_l1Words.mono .. | exact LeO.refl .. | exact LeO.none .. | refine LeO.ite ?_ ?_ | refine LeO.bind ?_ (fun _ => ?_)) | exact ih0 .. | exact ih1 .. | exact ih2 .. | exact ih3 .. | exact ih4 .. | exact ih5 .. | exact spec_l1Primes.mono .. | exact spec_l1Root.mono .. | exact spec_l1Whole.mono .. | exact spec_l1Words.mono .. | exact LeO.none .. | refine LeO.ite ?_ ?_ | refine LeO.bind ?_ (fun _ => ?_)
  ·
   intro y0 y1 y2 y3
   unfold spec_l1Sum.l2
   repeat' first | (with_reducible first | exact ih0 .. | exact ih1 .. | exact ih2 .. | exact ih3 .. | exact ih4 .. | exact ih5 .. | exact spec_l1Primes.mono .. | exact spec_l1Root.mono .. | exact spec_l1Whole.mono .. | exact spec_l1Words.mono .. | exact LeO.refl .. | exact LeO.none .. | refine LeO.ite ?_ ?_ | refine LeO.bind ?_ (fun _ => ?_)) | exact ih0 .. | exact ih1 .. | exact ih2 .. | exact ih3 .. | exact ih4 .. | exact ih5 .. | exact spec_l1Primes.mono .. | exact spec_l1Root.mono .. | exact spec_l1Whole.mono .. | exact spec_l1Words.mono .. | exact LeO.none .. | refine LeO.ite ?_ ?_ | refine LeO.bind ?_ (fun _ => ?_)
  ·
   intro y0 y1 y2 y3 y4 y5 y6
   unfold spec_l1Sum.l3
   repeat' first | (with_reducible first | exact ih0 .. | exact ih1 .. | exact ih2 .. | exact ih3 .. | exact ih4 .. | exact ih5 .. | exact spec_l1Primes.mono .. | exact spec_l1Root.mono .. | exact spec_l1Whole.mono .. | exact spec_l1Words.mono .. | exact LeO.refl .. | exact LeO.none .. | refine LeO.ite ?_ ?_ | refine LeO.bind ?_ (fun _ => ?_)) | exact ih0 .. | exact ih1 .. | exact ih2 .. | exact ih3 .. | exact ih4 .. | exact ih5 .. | exact spec_l1Primes.mono .. | exact spec_l1Root.mono .. | exact spec_l1Whole.mono .. | exact spec_l1Words.mono .. | exact LeO.none .. | refine LeO.ite ?_ ?_ | refine LeO.bind ?_ (fun _ => ?_)
  ·
   intro y0 y1 y2 y3 y4 y5
   unfold spec_l1Sum.l4
   repeat' first | (with_reducible first | exact ih0 .. | exact ih1 .. | exact ih2 .. | exact ih3 .. | exact ih4 .. | exact ih5 .. | exact spec_l1Primes.mono .. | exact spec_l1Root.mono .. | exact spec_l1Whole.mono .. | exact spec_l1Words.mono .. | exact LeO.refl .. | exact LeO.none .. | refine LeO.ite ?_ ?_ | refine LeO.bind ?_ (fun _ => ?_)) | exact ih0 .. | exact ih1 .. | exact ih2 .. | exact ih3 .. | exact ih4 .. | exact ih5 .. | exact spec_l1Primes.mono .. | exact spec_l1Root.mono .. | exact spec_l1Whole.mono .. | exact spec_l1Words.mono .. | exact LeO.none .. | refine LeO.ite ?_ ?_ | refine LeO.bind ?_ (fun _ => ?_)
  ·
   intro y0 y1 y2
   unfold spec_l1Sum.l5
   repeat' first | (with_reducible first | exact ih0 .. | exact ih1 .. | exact ih2 .. | exact ih3 .. | exact ih4 .. | exact ih5 .. | exact spec_l1Primes.mono .. | exact spec_l1Root.mono .. | exact spec_l1Whole.mono .. | exact spec_l1Words.mono .. | exact LeO.refl .. | exact LeO.none .. | refine LeO.ite ?_ ?_ | refine LeO.bind ?_ (fun _ => ?_)) | exact ih0 .. | exact ih1 .. | exact ih2 .. | exact ih3 .. | exact ih4 .. | exact ih5 .. | exact spec_l1Primes.mono .. | exact spec_l1Root.mono .. | exact spec_l1Whole.mono .. | exact spec_l1Words.mono .. | exact LeO.none .. | refine LeO.ite ?_ ?_ | refine LeO.bind ?_ (fun _ => ?_)
theorem spec_l1Sum.mono : ∀ a0 k, LeO (spec_l1Sum.f k a0) (spec_l1Sum.f (k + 1) a0) := by
 intro a0 k
 obtain ⟨ih0, ih1, ih2, ih3, ih4, ih5⟩ := spec_l1Sum.mono_l k
 unfold spec_l1Sum.f
 repeat' first | (with_reducible first | exact ih0 .. | exact ih1 .. | exact ih2 .. | exact ih3 .. | exact ih4 .. | exact ih5 .. | exact spec_l1Primes.mono .. | exact spec_l1Root.mono .. | exact spec_l1Whole.mono .. | exact spec_l1Words.mono .. | exact LeO.refl .. | exact LeO.none .. | refine LeO.ite ?_ ?_ | refine LeO.bind ?_ (fun _ => ?_)) | exact ih0 .. | exact ih1 .. | exact ih2 .. | exact ih3 .. | exact ih4 .. | exact ih5 .. | exact spec_l1Primes.mono .. | exact spec_l1Root.mono .. | exact spec_l1Whole.mono .. | exact spec_l1Words.mono .. | exact LeO.none .. | refine LeO.ite ?_ ?_ | refine LeO.bind ?_ (fun _ => ?_)
def spec_l1Sum.T21 : Bool × List (List Nat × List Nat) := (true, [([], []), ([], []), ([], []), ([1, 2], [1, 2]), ([3], [3]), ([], []), ([], []), ([5, 6], [5, 6]), ([7], [7]), ([0, 4, 8], [0, 4, 8]), ([9, 9, 0, 1, 2, 3, 4, 5, 6, 7, 8, 9], [0, 9])])
def spec_l1Sum.B21 : List Nat := [0, 0, 0, 6, 14, 0, 0, 96, 224, 511, 1023]
theorem spec_l1Sum.tab21 : rtab .any (opsOf Tryd.f60 21) = spec_l1Sum.T21 := by kernel_rfl
theorem spec_l1Sum.bits21 : waitsOk spec_l1Sum.T21.2 spec_l1Sum.B21 = true := by kernel_rfl
def spec_l1Sum.T25 : Bool × List (List Nat × List Nat) := (true, [([], []), ([], []), ([], []), ([], []), ([2, 3], [2, 3]), ([4], [4]), ([], []), ([], []), ([6, 7], [6, 7]), ([8], [8]), ([5, 9], [5, 9]), ([10], [10]), ([0, 1, 0, 1, 2, 3, 4, 5, 6, 7, 8, 9, 10, 11], [0, 1]), ([12, 11, 11, 0, 1, 2, 3, 4, 5, 6, 7, 8, 9, 10, 11], [11, 12])])
def spec_l1Sum.B25 : List Nat := [0, 0, 0, 0, 12, 28, 0, 0, 192, 448, 1020, 2044, 4095, 8191]
theorem spec_l1Sum.tab25 : rtab .any (opsOf Tryd.f60 25) = spec_l1Sum.T25 := by kernel_rfl
theorem spec_l1Sum.bits25 : waitsOk spec_l1Sum.T25.2 spec_l1Sum.B25 = true := by kernel_rfl
def spec_l1Sum.T30 : Bool × List (List Nat × List Nat) := (true, [([], []), ([], []), ([], []), ([1, 2], [1, 2]), ([3], [3]), ([4], [4]), ([5], [5]), ([], []), ([], []), ([7, 8], [7, 8]), ([9], [9]), ([10], [10]), ([11], [11]), ([], []), ([], []), ([13, 14], [13, 14]), ([15], [15]), ([16], [16]), ([17], [17]), ([], []), ([], []), ([19, 20], [19, 20]), ([21], [21]), ([22], [22]), ([6, 12, 18, 23], [6, 12, 18, 23]), ([0, 24], [0, 24]), ([25, 25, 0, 1, 2, 3, 4, 5, 6, 7, 8, 9, 10, 11, 12, 13, 14, 15, 16, 17, 18, 19, 20, 21, 22, 23, 24, 25], [0, 25])])
def spec_l1Sum.B30 : List Nat := [0, 0, 0, 6, 14, 30, 62, 0, 0, 384, 896, 1920, 3968, 0, 0, 24576, 57344, 122880, 253952, 0, 0, 1572864, 3670016, 7864320, 16777214, 33554431, 67108863]
theorem spec_l1Sum.tab30 : rtab .any (opsOf Tryd.f60 30) = spec_l1Sum.T30 := by kernel_rfl
theorem spec_l1Sum.bits30 : waitsOk spec_l1Sum.T30.2 spec_l1Sum.B30 = true := by kernel_rfl
set_option maxHeartbeats 8000000 in
set_option maxRecDepth 100000 in
theorem spec_l1Sum.calls (k : Nat) (A0 : Option Addr) (c0 : Nat) (l0 : List Int) (r : List Int) (w : World) (hr0 : Kd.C (yag .u8) w A0 l0.length l0) (hc0 : l0.length ≤ c0) (h : spec_l1Sum.f k l0 = some r) :
  Calls Tryd.prog 60 #[.slice A0 l0.length c0] w fun e w' => ∃ v0_ : Value, e = .returned (v0_) ∧ Kd.R (yag .u8) 5 w' w.heap.size (fun _ => True) v0_ r ∧ Below w.heap.size w w' := by
 have HR0 := yaa hr0; have HC0 := yaa hc0; clear hr0 hc0; have HB := yaa (Below.refl w.heap.size w); have H : ((spec_l1Primes.f k 64).bind fun b1 => (spec_l1Sum.l0 k l0 b1 (([] : List Int)) 0)) = some r := h; clear h; obtain ⟨b1, A2, H⟩ := bindA H; (try dsimp only at H); obtain ⟨y104, hy104⟩ : ∃ y_ : List Int, y_ = (([] : List Int)) := ⟨_, rfl⟩
 replace H : (spec_l1Sum.l0 k l0 b1 y104 0) = some r := by first | (rw [hy104]; with_reducible exact H) | (have H2_ := (Option.bind_some _ _).symm.trans H; rw [hy104]; with_reducible exact H2_) | (have H2_ := (Option.bind_some _ _).symm.trans H; with_reducible exact H2_) | with_reducible exact H | (rw [hy104]; exact H) | exact H
 have Ny104 := yaa hy104; clear hy104; have H' := yaa H; clear H
 go_enter Tryd.func60, Tryd.ntmps60
 go_wp2_with (first | ((with_reducible refine gc_ 69 rfl ?_); refine gl_ (some 16) rfl Tryd.func69 #[.int .i64 64] ?_; (with_reducible refine (spec_l1Primes.calls k 64 b1 _ A2.out).mono ?_); rintro e w3 ⟨g0, rfl, ho0, hb⟩; refine ⟨_, rfl, ?_⟩; have e8 := yaa (Kd.R_lower ho0 (below_size (upH HB.out))); replace HB := yaa (below_step (upH HB.out) hb); (try clear hb ho0)) | ((with_reducible refine gd_ 17 rfl ?_); refine Kd.R_lit (yag .u64) _ 103 ?hg (N := 17) ?hd (xs := ([] : List Int)) (inner := []) (ok := fun _ => True) (okp := fun _ => True) ?hr ?hp (fun _ hk => hk) trivial (Below.refl _ _) (Nat.le_refl _) (by simp) ?_; (case hd => rfl); (case hg => rfl); (case hr => first | (go_simp; done) | (go_simp; rfl)); (case hp => exact (Reps.none _ _)); intro n8 w4 ho5 hb hg_ hnew_; clear hg_ hnew_; (first | rw [← Ny104.out] at ho5 | (simp only [Int.reduceToNat] at ho5; rw [← Ny104.out] at ho5)); have i2 := yaa (Kd.R_lower (Kd.R_new' ho5 (Kd.R_lt (upR e8.out))) (below_size (upH HB.out))); replace e8 := yaa (yai (upR e8.out) (Kd.R_base ho5) hb); replace HB := yaa (below_step (upH HB.out) hb); clear hb ho5))
 (try simp only [Act.put, List.setIfInBounds_toArray, List.set_cons_zero, List.set_cons_succ])
 go_loopg [4, 5] k (fun kq v4 v5 w' => ∃ (d4 : List Int) (b6 : Int), v5 = .int .i64 b6 ∧ yah (spec_l1Sum.l0 kq l0 b1 d4 b6 = some r) ∧ yah (kq ≤ k) ∧ yah (Kd.R (yag .u64) 103 w' w.heap.size (fun k_ => some k_ ≠ (v4 : Value).ownBlock) g0 b1) ∧ yah (Kd.R (yag .u64) 103 w' w.heap.size (fun k_ => some k_ ≠ (g0 : Value).ownBlock) v4 d4) ∧ yah (Below w.heap.size w w'))
 case atStart => exact ⟨(y104), (0), (by first | rfl | (simp; done) | (simp [*]; done)), H', ⟨Nat.le_refl _⟩, ⟨by (with_reducible repeat (first | apply yac | apply yad | apply yab)); exact yae e8.out (fun _ hk => by first | exact hk.2 | exact True.intro)⟩, ⟨by (with_reducible repeat (first | apply yac | apply yad | apply yab)); exact yae i2.out (fun _ hk => by first | exact hk.2 | exact True.intro)⟩, ⟨upH HB.out⟩⟩
 case round =>
  clear H'; (try clear p2); obtain ⟨d4, b6, rfl, HA, HK1, b2, a2, HB⟩ := hrel
  cases gk with
  | zero => exact absurd HA.out (by simp [spec_l1Sum.l0])
  | succ k1 =>
   have H := HA.out; clear HA
   simp only [spec_l1Sum.l0] at H
   by_cases c6 : b6 < 8
   ·
    rw [if_pos c6] at H
    have f5 : decide (b6 < 8) = true := decide_eq_true c6; clear c6
    by_cases c7 : 0 ≤ b6
    ·
     rw [if_pos c7] at H
     replace c7 := decide_eq_true c7
     by_cases c8 : b6 < (b1.length : Int)
     ·
      rw [if_pos c8] at H
      replace c8 := decide_eq_true c8; obtain ⟨g9, A9, H⟩ := bindA H; (try dsimp only at H)
      by_cases c10 : d4.length < 17592186044416
      ·
       rw [if_pos c10] at H
       have LMc10 := yaa c10; clear c10; obtain ⟨y109, hy109⟩ : ∃ y_ : List Int, y_ = (d4 ++ [g9]) := ⟨_, rfl⟩
       replace H : (spec_l1Sum.l0 k1 l0 b1 y109 (wrap64 (b6 + 1))) = some r := by first | (rw [hy109]; with_reducible exact H) | (have H2_ := (Option.bind_some _ _).symm.trans H; rw [hy109]; with_reducible exact H2_) | (have H2_ := (Option.bind_some _ _).symm.trans H; with_reducible exact H2_) | with_reducible exact H | (rw [hy109]; exact H) | exact H
       have Ny109 := yaa hy109; clear hy109; have H' := yaa H; clear H; obtain ⟨n9, k7, k8⟩ := Kd.R_slice b2.out; subst k8; have p107 : 0 ≤ (b6 : Int) := of_decide_eq_true (by assumption); have q107 : b6 < (b1.length : Int) := of_decide_eq_true (by assumption); obtain ⟨ad107, k9, b8⟩ := Kd.at_int (yaf b2.out).2.2 b6 p107 q107
       cases k9
       replace p107 := eq_true p107; replace q107 := eq_true q107
       go_wp2_with (first | ((with_reducible refine gc_ 70 rfl ?_); refine gl_ (some 27) rfl Tryd.func70 #[.int .u64 (rd b1 b6), .int .i64 2] ?_; (with_reducible refine (spec_l1Root.calls k1 (rd b1 b6) 2 g9 _ A9.out).mono ?_); rintro e w' ⟨rfl, ⟨nd, rfl⟩⟩; refine ⟨_, rfl, ?_⟩) | ((with_reducible refine gate_builtin (b := .append) (xs := #[.tmp 22, .tmp 28]) rfl ?_); at_builtin; refine Kd.R_append (yag .u64) (w0 := w) w.heap.size rfl (.tmp 22) (.tmp 28) 101 103 (.int .u64 0) 8 rfl Tryd.underlying101 info103 rfl (by decide) (by omega) u4 d4 g9 [.int .u64 g9] (fun k_ => some k_ ≠ (.slice (some ad107) b1.length k7 : Value).ownBlock) (fun _ => False) rfl rfl ?aP (fun _ hk => hk.elim) ?aF ?aO ?aB ?aS ?aL ?_; (case aP => exact rfl); (case aB => exact (upH HB.out)); (case aF => exact (fun k_ hk => Kd.fresh' (Kd.R_lt (upR b2.out)) k_ hk)); (case aO => exact (upR a2.out)); (case aS => exact (below_size (upH HB.out))); (case aL => have := LMc10.out; omega); intro o0 w12 ho hb hg hat; rw [← Ny109.out] at ho; replace b2 := yaa (Kd.R_after (ok := (fun _ => True)) (by (with_reducible repeat (first | apply yac | apply yad | apply yab)); exact yae b2.out (fun _ hk => ⟨trivial, hk⟩)) hg hat); replace HB := yaa (hb); have h4 := yaa (ho); clear a2; clear ho hb hg hat))
       go_roundg k1
       case measure => have := HK1.out; omega
       case rel => exact ⟨(y109), (wrap64 (b6 + 1)), (by first | rfl | (simp; done) | (simp [*]; done)), H', ⟨by have := HK1.out; omega⟩, ⟨by (with_reducible repeat (first | apply yac | apply yad | apply yab)); exact yae b2.out (fun _ hk => by first | exact hk.2 | exact True.intro)⟩, ⟨by first | exact h4.out | exact upR h4.out⟩, ⟨upH HB.out⟩⟩
      ·
       rw [if_neg c10] at H
       exact absurd H (by simp)
     ·
      rw [if_neg c8] at H
      exact absurd H (by simp)
    ·
     rw [if_neg c7] at H
     exact absurd H (by simp)
   ·
    rw [if_neg c6] at H
    have f5 : decide (b6 < 8) = false := decide_eq_false c6; clear c6; obtain ⟨a9, A13, H⟩ := bindA H; (try dsimp only at H); obtain ⟨y115, hy115⟩ : ∃ y_ : List Int, y_ = (([] : List Int)) := ⟨_, rfl⟩
    replace H : (spec_l1Sum.l1 k1 b1 d4 a9 y115 0) = some r := by first | (rw [hy115]; with_reducible exact H) | (have H2_ := (Option.bind_some _ _).symm.trans H; rw [hy115]; with_reducible exact H2_) | (have H2_ := (Option.bind_some _ _).symm.trans H; with_reducible exact H2_) | with_reducible exact H | (rw [hy115]; exact H) | exact H
    have Ny115 := yaa hy115; clear hy115; have H' := yaa H; clear H
    go_wp2_with (first | ((with_reducible refine gc_ 71 rfl ?_); refine gl_ (some 31) rfl Tryd.func71 #[.slice A0 l0.length c0] ?_; (with_reducible refine (spec_l1Whole.calls k1 _ _ l0 a9 _ ?side1 ?side2 A13.out).mono ?_); (case side1 => repeat (first | exact (Kd.C_below HR0.out HB.out) | (with_reducible refine Kd.C_alloc ?_ _) | (with_reducible refine Kd.C_drewN ?_ _) | (with_reducible refine Kd.C_drew ?_))); (case side2 => exact HC0.out); rintro e w14 ⟨i3, rfl, ho0, hb⟩; refine ⟨_, rfl, ?_⟩; replace b2 := yaa (Kd.R_below (upR b2.out) hb); replace a2 := yaa (Kd.R_below (upR a2.out) hb); have e9 := yaa (Kd.R_lower ho0 (below_size (upH HB.out))); replace HB := yaa (below_step (upH HB.out) hb); (try clear hb ho0)) | ((with_reducible refine gd_ 32 rfl ?_); refine Kd.R_lit (yag .u64) _ 103 ?hg (N := 32) ?hd (xs := ([] : List Int)) (inner := []) (ok := fun _ => True) (okp := fun _ => True) ?hr ?hp (fun _ hk => hk) trivial (Below.refl _ _) (Nat.le_refl _) (by simp) ?_; (case hd => rfl); (case hg => rfl); (case hr => first | (go_simp; done) | (go_simp; rfl)); (case hp => exact (Reps.none _ _)); intro o1 w15 e6 hb hg_ hnew_; clear hg_ hnew_; (first | rw [← Ny115.out] at e6 | (simp only [Int.reduceToNat] at e6; rw [← Ny115.out] at e6)); replace e9 := yaa (Kd.R_below (upR e9.out) hb); have i4 := yaa (Kd.R_lower (Kd.R_new' (Kd.R_new' e6 (Kd.R_lt (upR b2.out))) (Kd.R_lt (upR a2.out))) (below_size (upH HB.out))); replace b2 := yaa (yai (upR b2.out) (Kd.R_base e6) hb); replace a2 := yaa (yai (upR a2.out) (Kd.R_base e6) hb); replace HB := yaa (below_step (upH HB.out) hb); clear hb e6))
    (try simp only [Act.put, List.setIfInBounds_toArray, List.set_cons_zero, List.set_cons_succ])
    go_loopg [7, 8] k1 (fun kq v7 v8 w' => ∃ (b4 : List Int) (b7 : Int), v8 = .int .i64 b7 ∧ yah (spec_l1Sum.l1 kq b1 d4 a9 b4 b7 = some r) ∧ yah (kq ≤ k1) ∧ yah (Kd.R (yag .u64) 103 w' w.heap.size (fun k_ => some k_ ≠ (u4 : Value).ownBlock ∧ some k_ ≠ (v7 : Value).ownBlock) g0 b1) ∧ yah (Kd.R (yag .u64) 103 w' w.heap.size (fun k_ => some k_ ≠ (g0 : Value).ownBlock ∧ some k_ ≠ (v7 : Value).ownBlock) u4 d4) ∧ yah (Kd.R (yag .u8) 5 w' w.heap.size (fun _ => True) i3 a9) ∧ yah (Kd.R (yag .u64) 103 w' w.heap.size (fun k_ => some k_ ≠ (g0 : Value).ownBlock ∧ some k_ ≠ (u4 : Value).ownBlock) v7 b4) ∧ yah (Below w.heap.size w w'))
    case atStart => exact ⟨(y115), (0), (by first | rfl | (simp; done) | (simp [*]; done)), H', ⟨Nat.le_refl _⟩, ⟨by first | exact b2.out | exact upR b2.out⟩, ⟨by first | exact a2.out | exact upR a2.out⟩, ⟨by first | exact e9.out | exact upR e9.out⟩, ⟨by (with_reducible repeat (first | apply yac | apply yad | apply yab)); exact yae i4.out (fun _ hk => ⟨hk.1.2, hk.2⟩)⟩, ⟨upH HB.out⟩⟩
    case round =>
     clear H'; (try clear c1); (try clear p1); (try clear q1); (try clear hx1); (try clear p2); (try clear c6); (try clear f5); (try clear p6); (try clear c7); (try clear c7b0); (try clear c8); (try clear c8b0); (try clear c10); (try clear p10); (try clear q10); (try clear hx10); (try clear b8); (try clear p107); (try clear p2); (try clear q107); obtain ⟨b4, b7, rfl, HA, HK2, b2, a2, a5, a8, HB⟩ := hrel
     cases gk with
     | zero => exact absurd HA.out (by simp [spec_l1Sum.l1])
     | succ k2 =>
      have H := HA.out; clear HA
      simp only [spec_l1Sum.l1] at H
      by_cases c17 : b7 < 64
      ·
       rw [if_pos c17] at H
       have e1 : decide (b7 < 64) = true := decide_eq_true c17; clear c17
       by_cases c18 : 0 ≤ b7
       ·
        rw [if_pos c18] at H
        replace c18 := decide_eq_true c18
        by_cases c19 : b7 < (b1.length : Int)
        ·
         rw [if_pos c19] at H
         replace c19 := decide_eq_true c19; obtain ⟨h3, A20, H⟩ := bindA H; (try dsimp only at H)
         by_cases c21 : b4.length < 17592186044416
         ·
          rw [if_pos c21] at H
          have LMc21 := yaa c21; clear c21; obtain ⟨y120, hy120⟩ : ∃ y_ : List Int, y_ = (b4 ++ [h3]) := ⟨_, rfl⟩
          replace H : (spec_l1Sum.l1 k2 b1 d4 a9 y120 (wrap64 (b7 + 1))) = some r := by first | (rw [hy120]; with_reducible exact H) | (have H2_ := (Option.bind_some _ _).symm.trans H; rw [hy120]; with_reducible exact H2_) | (have H2_ := (Option.bind_some _ _).symm.trans H; with_reducible exact H2_) | with_reducible exact H | (rw [hy120]; exact H) | exact H
          have Ny120 := yaa hy120; clear hy120; have H' := yaa H; clear H; obtain ⟨o2, i5, l6⟩ := Kd.R_slice b2.out; subst l6; have p118 : 0 ≤ (b7 : Int) := of_decide_eq_true (by assumption); have q118 : b7 < (b1.length : Int) := of_decide_eq_true (by assumption); obtain ⟨ad118, l7, d0⟩ := Kd.at_int (yaf b2.out).2.2 b7 p118 q118
          cases l7
          replace p118 := eq_true p118; replace q118 := eq_true q118
          go_wp2_with (first | ((with_reducible refine gc_ 70 rfl ?_); refine gl_ (some 42) rfl Tryd.func70 #[.int .u64 (rd b1 b7), .int .i64 3] ?_; (with_reducible refine (spec_l1Root.calls k2 (rd b1 b7) 3 h3 _ A20.out).mono ?_); rintro e w' ⟨rfl, ⟨nd, rfl⟩⟩; refine ⟨_, rfl, ?_⟩) | ((with_reducible refine gate_builtin (b := .append) (xs := #[.tmp 37, .tmp 43]) rfl ?_); at_builtin; refine Kd.R_append (yag .u64) (w0 := w) w.heap.size rfl (.tmp 37) (.tmp 43) 101 103 (.int .u64 0) 8 rfl Tryd.underlying101 info103 rfl (by decide) (by omega) u7 b4 h3 [.int .u64 h3] (fun k_ => some k_ ≠ (.slice (some ad118) b1.length i5 : Value).ownBlock ∧ some k_ ≠ (u4 : Value).ownBlock) (fun _ => False) rfl rfl ?aP (fun _ hk => hk.elim) ?aF ?aO ?aB ?aS ?aL ?_; (case aP => exact rfl); (case aB => exact (upH HB.out)); (case aF => exact (fun k_ hk => ⟨Kd.fresh' (Kd.R_lt (upR b2.out)) k_ hk, Kd.fresh' (Kd.R_lt (upR a2.out)) k_ hk⟩)); (case aO => exact (upR a8.out)); (case aS => exact (below_size (upH HB.out))); (case aL => have := LMc21.out; omega); intro o3 w23 ho hb hg hat; rw [← Ny120.out] at ho; replace b2 := yaa (Kd.R_after (ok := (fun k_ => some k_ ≠ (u4 : Value).ownBlock)) (upR b2.out) hg hat); replace a2 := yaa (Kd.R_after (ok := (fun k_ => some k_ ≠ (.slice (some ad118) b1.length i5 : Value).ownBlock)) (upR a2.out) hg hat); replace a5 := yaa (Kd.R_over' (upR a5.out) (Kd.R_typed (upR a8.out)) (by decide) hg); replace HB := yaa (hb); have h5 := yaa (ho); clear a8; clear ho hb hg hat))
          go_roundg k2
          case measure => have := HK1.out; have := HK2.out; omega
          case rel => exact ⟨(y120), (wrap64 (b7 + 1)), (by first | rfl | (simp; done) | (simp [*]; done)), H', ⟨by have := HK1.out; have := HK2.out; omega⟩, ⟨by first | exact b2.out | exact upR b2.out⟩, ⟨by first | exact a2.out | exact upR a2.out⟩, ⟨by first | exact a5.out | exact upR a5.out⟩, ⟨by first | exact h5.out | exact upR h5.out⟩, ⟨upH HB.out⟩⟩
         ·
          rw [if_neg c21] at H
          exact absurd H (by simp)
        ·
         rw [if_neg c19] at H
         exact absurd H (by simp)
       ·
        rw [if_neg c18] at H
        exact absurd H (by simp)
      ·
       rw [if_neg c17] at H
       have e1 : decide (b7 < 64) = false := decide_eq_false c17; clear c17; have H' := yaa H; clear H
       go_wp2
       (try simp only [Act.put, List.setIfInBounds_toArray, List.set_cons_zero, List.set_cons_succ])
       go_loopg [9] k2 (fun kq v9 w' => ∃ (a3 : List Int) (a6 : Int), v9 = .int .i64 a6 ∧ yah (spec_l1Sum.l2 kq a3 a9 b4 a6 = some r) ∧ yah (kq ≤ k2) ∧ yah (Kd.R (yag .u64) 103 w' w.heap.size (fun k_ => some k_ ≠ (u7 : Value).ownBlock) u4 a3) ∧ yah (Kd.R (yag .u8) 5 w' w.heap.size (fun _ => True) i3 a9) ∧ yah (Kd.R (yag .u64) 103 w' w.heap.size (fun k_ => some k_ ≠ (u4 : Value).ownBlock) u7 b4) ∧ yah (Below w.heap.size w w'))
       case atStart => exact ⟨(d4), (0), (by first | rfl | (simp; done) | (simp [*]; done)), H', ⟨Nat.le_refl _⟩, ⟨by (with_reducible repeat (first | apply yac | apply yad | apply yab)); exact yae a2.out (fun _ hk => by first | exact hk.2 | exact True.intro)⟩, ⟨by first | exact a5.out | exact upR a5.out⟩, ⟨by (with_reducible repeat (first | apply yac | apply yad | apply yab)); exact yae a8.out (fun _ hk => by first | exact hk.2 | exact True.intro)⟩, ⟨upH HB.out⟩⟩
       case round =>
        clear H'; (try clear c1); (try clear p1); (try clear q1); (try clear hx1); (try clear c2); (try clear p2); (try clear c6); (try clear f5); (try clear p6); (try clear c7); (try clear c7b0); (try clear c8); (try clear c8b0); (try clear c10); (try clear p10); (try clear q10); (try clear hx10); (try clear p11); (try clear q11); (try clear hx11); (try clear c17); (try clear e1); (try clear c18); (try clear c18b0); (try clear c19); (try clear c19b0); (try clear c21); (try clear b8); (try clear d0); (try clear p1); (try clear p10); (try clear p107); (try clear p118); (try clear p2); (try clear p6); (try clear q1); (try clear q10); (try clear q107); (try clear q118); obtain ⟨a3, a6, rfl, HA, HK3, a2, a5, a8, HB⟩ := hrel
        cases gk with
        | zero => exact absurd HA.out (by simp [spec_l1Sum.l2])
        | succ k3 =>
         have H := HA.out; clear HA
         simp only [spec_l1Sum.l2] at H
         by_cases c24 : a6 < (a9.length : Int)
         ·
          rw [if_pos c24] at H
          have f0 : decide (a6 < (a9.length : Int)) = true := decide_eq_true c24; clear c24
          by_cases c25 : 0 ≤ a6
          ·
           rw [if_pos c25] at H
           have g3 := eq_true c25; replace c25 := decide_eq_true c25
           by_cases c26 : a6 ≤ (wrap64 (a6 + 64))
           ·
            rw [if_pos c26] at H
            have g4 := eq_true c26; have g5 : decide (a6 ≤ (wrap64 (a6 + 64))) = true := decide_eq_true c26
            by_cases c27 : (wrap64 (a6 + 64)) ≤ (a9.length : Int)
            ·
             rw [if_pos c27] at H
             have g6 := eq_true c27; have g7 : decide ((wrap64 (a6 + 64)) ≤ (a9.length : Int)) = true := decide_eq_true c27; obtain ⟨y123, hy123⟩ : ∃ y_ : List Int, y_ = ((a9.take ((wrap64 (a6 + 64)) : Int).toNat).drop (a6 : Int).toNat) := ⟨_, rfl⟩
             conv at H => enter [1, 1, 2]; rw [← hy123]
             have Ny123 := yaa hy123; clear hy123; obtain ⟨d9, A28, H⟩ := bindA H; (try dsimp only at H); obtain ⟨y130, hy130, H⟩ := bindY H; (try dsimp only at H); have Ny130 := yaa hy130; clear hy130
             by_cases c29 : y130.length + a3.length < 17592186044416
             ·
              rw [if_pos c29] at H
              have LMc29 := yaa c29; clear c29; obtain ⟨y133, hy133⟩ : ∃ y_ : List Int, y_ = (y130 ++ a3) := ⟨_, rfl⟩
              replace H : (spec_l1Sum.l3 k3 a3 a9 b4 a6 d9 y133 0) = some r := by first | (rw [hy133]; with_reducible exact H) | (have H2_ := (Option.bind_some _ _).symm.trans H; rw [hy133]; with_reducible exact H2_) | (have H2_ := (Option.bind_some _ _).symm.trans H; with_reducible exact H2_) | with_reducible exact H | (rw [hy133]; exact H) | exact H
              have Ny133 := yaa hy133; clear hy133; have H' := yaa H; clear H; obtain ⟨f6, e2, l8⟩ := Kd.R_slice a5.out; subst l8; have q31 : ((wrap64 (a6 + 64)) : Int) ≤ ((a9.length : Int) : Int) := of_decide_eq_true (by assumption); obtain ⟨i031, hi031, _, h6, _⟩ := info_parts info5; have hroom31 : a9.length ≤ e2 := (yaf a5.out).2.1; have hC31 : Kd.C (yag .u8) _ f6 a9.length a9 := (yaf a5.out).2.2; have ql31 : (a6 : Int) ≤ ((wrap64 (a6 + 64)) : Int) := of_decide_eq_true (by assumption); have q031 : (0 : Int) ≤ (a6 : Int) := of_decide_eq_true (by assumption); have hcut31 := cut_mid (P := Tryd.prog) 22 5 .i64 .i64 Tryd.underlying22 hi031 1 h6 f6 a9.length e2 a6 (wrap64 (a6 + 64)) q031 ql31 q31 hroom31; have hr31 := Kd.C_mid (lo := (a6 : Int).toNat) (hi := ((wrap64 (a6 + 64)) : Int).toNat) (c := e2) hC31 (by omega) (by omega) hroom31
              obtain ⟨A31, hA31⟩ : ∃ A1, A1 = (if e2 = (a6 : Int).toNat then f6 else (f6 : Option Addr).map (·.add ((a6 : Int).toNat * 1))) := ⟨_, rfl⟩
              obtain ⟨c31, hc31⟩ : ∃ c1, c1 = e2 - (a6 : Int).toNat := ⟨_, rfl⟩; have hy31 : y123.length = ((wrap64 (a6 + 64)) : Int).toNat - (a6 : Int).toNat := (by rw [Ny123.out, List.length_drop, List.length_take] <;> omega)
              rw [show ((a9).take ((wrap64 (a6 + 64)) : Int).toNat).drop (a6 : Int).toNat = y123 from Ny123.out.symm] at hr31
              replace hr31 : Kd.C (yag .u8) _ A31 y123.length y123 := (by rw [hA31]; exact hr31)
              rw [← hy31, ← hA31, ← hc31] at hcut31
              have HR126 := yaa hr31; have HC126 := yaa (show y123.length ≤ c31 from by rw [hy31, hc31]; exact Nat.sub_le_sub_right (Nat.le_trans (by omega) hroom31) _); clear hr31 hC31 hroom31 hi031 h6 hc31; have KY31 := yaa hy31; have KA31 := yaa hA31; clear hy31 hA31; have KL31 := yaa (show ((wrap64 (a6 + 64)) : Int).toNat ≤ a9.length from by omega); have KM31 := yaa (show (a6 : Int).toNat ≤ ((wrap64 (a6 + 64)) : Int).toNat from by omega); replace q31 := eq_true q31
              go_wp2_with (first | ((with_reducible refine gc_ 72 rfl ?_); refine gl_ (some 56) rfl Tryd.func72 #[.slice A31 y123.length c31] ?_; (with_reducible refine (spec_l1Words.calls k3 _ _ y123 d9 _ ?side1 ?side2 A28.out).mono ?_); (case side1 => repeat (first | exact (by repeat (first | (with_reducible exact HR126.out) | (with_reducible refine Kd.C_alloc ?_ _) | (with_reducible refine Kd.C_drewN ?_ _) | (with_reducible refine Kd.C_drew ?_) | exact HR126.out)) | (with_reducible refine Kd.C_alloc ?_ _) | (with_reducible refine Kd.C_drewN ?_ _) | (with_reducible refine Kd.C_drew ?_))); (case side2 => exact HC126.out); rintro e w32 ⟨e7, rfl, ho0, hb⟩; refine ⟨_, rfl, ?_⟩; replace a5 := yaa (Kd.R_below (upR a5.out) hb); have d5 := yaa (Kd.R_lower (Kd.R_new' (Kd.R_new' ho0 (Kd.R_lt (upR a2.out))) (Kd.R_lt (upR a8.out))) (below_size (upH HB.out))); replace a2 := yaa (yai (upR a2.out) (Kd.R_base ho0) hb); replace a8 := yaa (yai (upR a8.out) (Kd.R_base ho0) hb); replace HR126 := yaa (Kd.C_below (by repeat (first | (with_reducible exact HR126.out) | (with_reducible refine Kd.C_alloc ?_ _) | (with_reducible refine Kd.C_drewN ?_ _) | (with_reducible refine Kd.C_drew ?_) | exact HR126.out)) hb); replace HB := yaa (below_step (upH HB.out) hb); (try clear hb ho0)) | ((with_reducible refine gd_ 57 rfl ?_); refine Kd.R_lit (yag .u64) _ 103 ?hg (N := 57) ?hd (xs := ([] : List Int)) (inner := []) (ok := fun _ => True) (okp := fun _ => True) ?hr ?hp (fun _ hk => hk) trivial (Below.refl _ _) (Nat.le_refl _) (by simp) ?_; (case hd => rfl); (case hg => rfl); (case hr => first | (go_simp; done) | (go_simp; rfl)); (case hp => exact (Reps.none _ _)); intro l9 w33 e3 hb hg_ hnew_; clear hg_ hnew_; (first | rw [← Ny130.out] at e3 | (simp only [Int.reduceToNat] at e3; rw [← Ny130.out] at e3)); replace a5 := yaa (Kd.R_below (upR a5.out) hb); have e4 := yaa (Kd.R_lower (Kd.R_new' (Kd.R_new' (Kd.R_new' e3 (Kd.R_lt (upR a2.out))) (Kd.R_lt (upR a8.out))) (Kd.R_lt (upR d5.out))) (below_size (upH HB.out))); replace a2 := yaa (yai (upR a2.out) (Kd.R_base e3) hb); replace a8 := yaa (yai (upR a8.out) (Kd.R_base e3) hb); replace d5 := yaa (yai (upR d5.out) (Kd.R_base e3) hb); replace HR126 := yaa (Kd.C_below (by repeat (first | (with_reducible exact HR126.out) | (with_reducible refine Kd.C_alloc ?_ _) | (with_reducible refine Kd.C_drewN ?_ _) | (with_reducible refine Kd.C_drew ?_) | exact HR126.out)) hb); replace HB := yaa (below_step (upH HB.out) hb); clear hb e3; obtain ⟨d7, d8, m0⟩ := Kd.R_slice a2.out; subst m0) | ((with_reducible refine gate_builtin (b := .append) (xs := #[.tmp 57, .tmp 58]) rfl ?_); at_builtin; refine Kd.R_append_rows (yag .u64) (w0 := w) w.heap.size rfl (.tmp 57) (.tmp 58) 101 103 (.int .u64 0) 8 rfl Tryd.underlying101 info103 rfl (by decide) (by omega) l9 y130 a3 _ _ _ (fun k_ => some k_ ≠ (.slice d7 a3.length d8 : Value).ownBlock ∧ some k_ ≠ (u7 : Value).ownBlock ∧ some k_ ≠ (e7 : Value).ownBlock) (fun _ => False) rfl rfl ?aO ?aR (fun _ _ h => h) (fun _ h => h.elim) ?aF ?aB ?aS ?aL ?_; (case aR => repeat (first | exact (yaf a2.out).2.2 | (with_reducible refine Kd.C_alloc ?_ _) | (with_reducible refine Kd.C_drewN ?_ _) | (with_reducible refine Kd.C_drew ?_))); (case aB => exact (upH HB.out)); (case aF => exact (fun k_ hk => ⟨Kd.fresh' (Kd.R_lt (upR a2.out)) k_ hk, Kd.fresh' (Kd.R_lt (upR a8.out)) k_ hk, Kd.fresh' (Kd.R_lt (upR d5.out)) k_ hk⟩)); (case aO => exact (by (with_reducible repeat (first | apply yac | apply yad | apply yab)); exact yae e4.out (fun _ hk => ⟨hk.1.1.2, ⟨hk.1.2, hk.2⟩⟩))); (case aS => exact (below_size (upH HB.out))); (case aL => have := LMc29.out; omega); intro o4 w35 ho hb hg hat; rw [← Ny133.out] at ho; replace a2 := yaa (Kd.R_after (ok := (fun k_ => some k_ ≠ (u7 : Value).ownBlock ∧ some k_ ≠ (e7 : Value).ownBlock)) (upR a2.out) hg hat); replace a8 := yaa (Kd.R_after (ok := (fun k_ => some k_ ≠ (.slice d7 a3.length d8 : Value).ownBlock ∧ some k_ ≠ (e7 : Value).ownBlock)) (upR a8.out) hg hat); replace d5 := yaa (Kd.R_after (ok := (fun k_ => some k_ ≠ (.slice d7 a3.length d8 : Value).ownBlock ∧ some k_ ≠ (u7 : Value).ownBlock)) (by (with_reducible repeat (first | apply yac | apply yad | apply yab)); exact yae d5.out (fun _ hk => ⟨⟨hk.1.1.2, hk.1.2⟩, hk.2⟩)) hg hat); replace HB := yaa (hb); replace HR126 := yaa ((show Kd.C (yag .u8) w35 A31 y123.length y123 from by rw [Ny123.out, KA31.out]; exact Kd.C_mid (lo := (a6 : Int).toNat) (hi := ((wrap64 (a6 + 64)) : Int).toNat) (c := e2) ((yaf (Kd.R_over' (upR a5.out) (Kd.R_typed (upR e4.out)) (by decide) hg)).2.2) KM31.out KL31.out ((yaf (Kd.R_over' (upR a5.out) (Kd.R_typed (upR e4.out)) (by decide) hg)).2.1))); replace a5 := yaa (Kd.R_over' (upR a5.out) (Kd.R_typed (upR e4.out)) (by decide) hg); have h7 := yaa (ho); clear e4; clear ho hb hg hat))
              (try simp only [Act.put, List.setIfInBounds_toArray, List.set_cons_zero, List.set_cons_succ])
              go_loopg [11, 12] k3 (fun kq v11 v12 w' => ∃ (b3 : List Int) (a7 : Int), v12 = .int .i64 a7 ∧ yah (spec_l1Sum.l3 kq a3 a9 b4 a6 d9 b3 a7 = some r) ∧ yah (kq ≤ k3) ∧ yah (Kd.R (yag .u64) 103 w' w.heap.size (fun k_ => some k_ ≠ (u7 : Value).ownBlock ∧ some k_ ≠ (e7 : Value).ownBlock ∧ some k_ ≠ (v11 : Value).ownBlock) (.slice d7 a3.length d8) a3) ∧ yah (Kd.R (yag .u8) 5 w' w.heap.size (fun _ => True) (.slice f6 a9.length e2) a9) ∧ yah (Kd.R (yag .u64) 103 w' w.heap.size (fun k_ => some k_ ≠ ((.slice d7 a3.length d8) : Value).ownBlock ∧ some k_ ≠ (e7 : Value).ownBlock ∧ some k_ ≠ (v11 : Value).ownBlock) u7 b4) ∧ yah (Kd.R (yag .u64) 103 w' w.heap.size (fun k_ => some k_ ≠ ((.slice d7 a3.length d8) : Value).ownBlock ∧ some k_ ≠ (u7 : Value).ownBlock ∧ some k_ ≠ (v11 : Value).ownBlock) e7 d9) ∧ yah (Kd.R (yag .u64) 103 w' w.heap.size (fun k_ => some k_ ≠ ((.slice d7 a3.length d8) : Value).ownBlock ∧ some k_ ≠ (u7 : Value).ownBlock ∧ some k_ ≠ (e7 : Value).ownBlock) v11 b3) ∧ yah (Below w.heap.size w w'))
              case atStart => exact ⟨(y133), (0), (by first | rfl | (simp; done) | (simp [*]; done)), H', ⟨Nat.le_refl _⟩, ⟨by (with_reducible repeat (first | apply yac | apply yad | apply yab)); exact yae a2.out (fun _ hk => ⟨hk.1.1, ⟨hk.1.2, hk.2⟩⟩)⟩, ⟨by first | exact a5.out | exact upR a5.out⟩, ⟨by (with_reducible repeat (first | apply yac | apply yad | apply yab)); exact yae a8.out (fun _ hk => ⟨hk.1.1, ⟨hk.1.2, hk.2⟩⟩)⟩, ⟨by (with_reducible repeat (first | apply yac | apply yad | apply yab)); exact yae d5.out (fun _ hk => ⟨hk.1.1, ⟨hk.1.2, hk.2⟩⟩)⟩, ⟨by first | exact h7.out | exact upR h7.out⟩, ⟨upH HB.out⟩⟩
              case round =>
               clear H'; (try clear c1); (try clear p1); (try clear q1); (try clear hx1); (try clear c2); (try clear p2); (try clear c3); (try clear q3); (try clear c6); (try clear f5); (try clear p6); (try clear c7); (try clear c7b0); (try clear c8); (try clear c8b0); (try clear c10); (try clear p10); (try clear q10); (try clear hx10); (try clear p11); (try clear q11); (try clear hx11); (try clear c17); (try clear e1); (try clear c18); (try clear c18b0); (try clear c19); (try clear c19b0); (try clear c21); (try clear c24); (try clear f0); (try clear c25); (try clear g3); (try clear c25b1); (try clear c26); (try clear g4); (try clear g5); (try clear c27); (try clear g6); (try clear g7); (try clear c29); (try clear c31); (try clear q31); (try clear b8); (try clear d0); (try clear p1); (try clear p10); (try clear p107); (try clear p11); (try clear p118); (try clear p2); (try clear p6); (try clear q031); (try clear q1); (try clear q10); (try clear q107); (try clear q11); (try clear q118); (try clear q31); obtain ⟨b3, a7, rfl, HA, HK4, a2, a5, a8, b9, b0, HB⟩ := hrel
               cases gk with
               | zero => exact absurd HA.out (by simp [spec_l1Sum.l3])
               | succ k4 =>
                have H := HA.out; clear HA
                simp only [spec_l1Sum.l3] at H
                by_cases c37 : a7 < 64
                ·
                 rw [if_pos c37] at H
                 have g8 : decide (a7 < 64) = true := decide_eq_true c37; clear c37
                 by_cases c38 : 0 ≤ a7
                 ·
                  rw [if_pos c38] at H
                  replace c38 := decide_eq_true c38
                  by_cases c39 : a7 < (b4.length : Int)
                  ·
                   rw [if_pos c39] at H
                   replace c39 := decide_eq_true c39
                   by_cases c40 : a7 < (d9.length : Int)
                   ·
                    rw [if_pos c40] at H
                    replace c40 := decide_eq_true c40; obtain ⟨i6, A41, H⟩ := bindA H; (try dsimp only at H); have H' := yaa H; clear H
                    try go_wp2
                    replace a2 := yaa (yab a2.out); replace a5 := yaa (yab a5.out); replace a8 := yaa (yab a8.out); replace b9 := yaa (yab b9.out); replace b0 := yaa (yab b0.out); replace HB := yaa (below_drew1 HB.out); obtain ⟨o5, o6, i7⟩ := Kd.R_slice a8.out
                    (first | subst i7 | (injection i7 with f1_ f2_ f3_; have f4_ := f1_.symm; have f5_ := f3_.symm; clear f1_ f2_ f3_; subst f4_; subst f5_))
                    have p136 : 0 ≤ (a7 : Int) := of_decide_eq_true (by assumption); have q136 : a7 < (b4.length : Int) := of_decide_eq_true (by assumption); obtain ⟨ad136, m1, d1⟩ := Kd.at_int (yaf a8.out).2.2 a7 p136 q136
                    cases m1
                    replace p136 := eq_true p136; replace q136 := eq_true q136; obtain ⟨o7, o8, i8⟩ := Kd.R_slice b9.out
                    (first | subst i8 | (injection i8 with f1_ f2_ f3_; have f4_ := f1_.symm; have f5_ := f3_.symm; clear f1_ f2_ f3_; subst f4_; subst f5_))
                    have p137 : 0 ≤ (a7 : Int) := of_decide_eq_true (by assumption); have q137 : a7 < (d9.length : Int) := of_decide_eq_true (by assumption); obtain ⟨ad137, m2, d2⟩ := Kd.at_int (yaf b9.out).2.2 a7 p137 q137
                    cases m2
                    replace p137 := eq_true p137; replace q137 := eq_true q137; obtain ⟨m3, m4, i9⟩ := Kd.R_slice b0.out
                    (first | subst i9 | (injection i9 with f1_ f2_ f3_; have f4_ := f1_.symm; have f5_ := f3_.symm; clear f1_ f2_ f3_; subst f4_; subst f5_))
                    refine start_ (n := 11) (S := fun w' => w'.cell? (ad136.add (a7).toNat) = some (.int .u64 (rd b4 a7)) ∧ w'.cell? (ad137.add (a7).toNat) = some (.int .u64 (rd d9 a7))) (ds := []) q60_0 (by kernel_rfl) rfl rfl ⟨d1, d2⟩ (fun hHeld => ?_); refine with_tabW spec_l1Sum.tab21 spec_l1Sum.bits21 (fun HT_ HW_ => ?_)
                    generalize wr.drew = w42 at a2 a5 a8 b9 b0 HB d1 d2 hHeld ⊢
                    refine pz_ 0 64 q60_1 HT_ (by kernel_rfl) ?_
                    refine pz_ 1 65 q60_2 HT_ (by kernel_rfl) ?_
                    refine pz_ 2 66 q60_3 HT_ (by kernel_rfl) ?_
                    refine pz_ 3 67 q60_4 HT_ (by kernel_rfl) ?_
                    refine pz_ 5 69 q60_5 HT_ (by kernel_rfl) ?_
                    refine pz_ 6 70 q60_6 HT_ (by kernel_rfl) ?_
                    refine pz_ 7 71 q60_7 HT_ (by kernel_rfl) ?_
                    refine tz_ 4 68 q60_8 HT_ HW_ (by kernel_rfl) hHeld ?_
                    refine tz_ 8 72 q60_9 HT_ HW_ (by kernel_rfl) hHeld ?_
                    refine one_ (i := 9) (N := some 73) q60_10 rfl rfl (one_of HT_.out (by kernel_rfl)) (by decide) (fun K hK => ?_)
                    refine goes_ Tryd.func73 (by kernel_rfl) rfl #[.slice m3 b3.length m4, .int .u64 (rd b4 a7), .int .u64 (rd d9 a7)] (by rfl) rfl rfl (by (try simp only [List.map_toArray, List.map_cons, List.map_nil]); first | done | rfl | (simp only [List.length_drop, List.length_take]; rfl)) ?_
                    with_reducible refine (spec_l1Step.calls _ _ b3 (rd b4 a7) (rd d9 a7) i6 _ ?side1 ?side2 A41.out).mono ?_
                    (case side1 => repeat (first | exact (yaf b0.out).2.2 | (with_reducible refine Kd.C_alloc ?_ _) | (with_reducible refine Kd.C_drewN ?_ _) | (with_reducible refine Kd.C_drew ?_)))
                    (case side2 => exact (yaf b0.out).2.1)
                    rintro e w46 ⟨o9, rfl, ho0, hb⟩; have HS0_ := (hb.cell (World.block_lt_of_cell? _ _ (hHeld.1))).trans (hHeld.1); have HS1_ := (hb.cell (World.block_lt_of_cell? _ _ (hHeld.2))).trans (hHeld.2); refine ⟨_, rfl, ?_⟩; replace a5 := yaa (Kd.R_below (upR a5.out) hb); have j0 := yaa (Kd.R_lower (Kd.R_new' (Kd.R_new' (Kd.R_new' (Kd.R_new' ho0 (Kd.R_lt (upR a2.out))) (Kd.R_lt (upR a8.out))) (Kd.R_lt (upR b9.out))) (Kd.R_lt (upR b0.out))) (below_size (upH HB.out))); replace a2 := yaa (yai (upR a2.out) (Kd.R_base ho0) hb); replace a8 := yaa (yai (upR a8.out) (Kd.R_base ho0) hb); replace b9 := yaa (yai (upR b9.out) (Kd.R_base ho0) hb); replace b0 := yaa (yai (upR b0.out) (Kd.R_base ho0) hb); replace HB := yaa (below_step (upH HB.out) hb); (try clear hb); (try clear hb2); (try clear hk); (try clear hi); (try clear ho0)
                    refine hK.out _ _ ⟨HS0_, HS1_⟩ (fun hHeld => ?_)
                    clear hK K
                    refine norm_ (a' := ?_) ?_ ?_
                    rotate_left
                    ·
                     show Act.put _ (some 73) _ = _
                     simp only [Act.put, List.setIfInBounds_toArray, List.set_cons_zero, List.set_cons_succ, i64_w, i32_w]
                     rfl
                    refine pz_ 10 11 q60_11 HT_ (by kernel_rfl) ?_
                    refine done_ (done_of HT_.out (by kernel_rfl)) ?_
                    try go_wp2
                    go_roundg k4
                    case measure => have := HK1.out; have := HK2.out; have := HK3.out; have := HK4.out; omega
                    case rel => exact ⟨(i6), (wrap64 (a7 + 1)), (by first | rfl | (simp; done) | (simp [*]; done)), H', ⟨by have := HK1.out; have := HK2.out; have := HK3.out; have := HK4.out; omega⟩, ⟨by (with_reducible repeat (first | apply yac | apply yad | apply yab)); exact yae a2.out (fun _ hk => ⟨hk.1.1, ⟨hk.1.2.1, hk.2⟩⟩)⟩, ⟨by first | exact a5.out | exact upR a5.out⟩, ⟨by (with_reducible repeat (first | apply yac | apply yad | apply yab)); exact yae a8.out (fun _ hk => ⟨hk.1.1, ⟨hk.1.2.1, hk.2⟩⟩)⟩, ⟨by (with_reducible repeat (first | apply yac | apply yad | apply yab)); exact yae b9.out (fun _ hk => ⟨hk.1.1, ⟨hk.1.2.1, hk.2⟩⟩)⟩, ⟨by (with_reducible repeat (first | apply yac | apply yad | apply yab)); exact yae j0.out (fun _ hk => ⟨hk.1.1.1.2, ⟨hk.1.1.2, hk.1.2⟩⟩)⟩, ⟨upH HB.out⟩⟩
                   ·
                    rw [if_neg c40] at H
                    exact absurd H (by simp)
                  ·
                   rw [if_neg c39] at H
                   exact absurd H (by simp)
                 ·
                  rw [if_neg c38] at H
                  exact absurd H (by simp)
                ·
                 rw [if_neg c37] at H
                 have g8 : decide (a7 < 64) = false := decide_eq_false c37; clear c37; have H' := yaa H; clear H
                 go_wp2
                 (try simp only [Act.put, List.setIfInBounds_toArray, List.set_cons_zero, List.set_cons_succ])
                 go_loopg [13] k4 (fun kq v13 w' => ∃ (d6 : List Int) (a4 : Int), v13 = .int .i64 a4 ∧ yah (spec_l1Sum.l4 kq d6 a9 b4 a6 b3 a4 = some r) ∧ yah (kq ≤ k4) ∧ yah (Kd.R (yag .u64) 103 w' w.heap.size (fun k_ => some k_ ≠ (u7 : Value).ownBlock ∧ some k_ ≠ (u11 : Value).ownBlock) (.slice d7 a3.length d8) d6) ∧ yah (Kd.R (yag .u8) 5 w' w.heap.size (fun _ => True) (.slice f6 a9.length e2) a9) ∧ yah (Kd.R (yag .u64) 103 w' w.heap.size (fun k_ => some k_ ≠ ((.slice d7 a3.length d8) : Value).ownBlock ∧ some k_ ≠ (u11 : Value).ownBlock) u7 b4) ∧ yah (Kd.R (yag .u64) 103 w' w.heap.size (fun k_ => some k_ ≠ ((.slice d7 a3.length d8) : Value).ownBlock ∧ some k_ ≠ (u7 : Value).ownBlock) u11 b3) ∧ yah (Below w.heap.size w w'))
                 case atStart => exact ⟨(a3), (0), (by first | rfl | (simp; done) | (simp [*]; done)), H', ⟨Nat.le_refl _⟩, ⟨by (with_reducible repeat (first | apply yac | apply yad | apply yab)); exact yae a2.out (fun _ hk => ⟨hk.1, hk.2.2⟩)⟩, ⟨by first | exact a5.out | exact upR a5.out⟩, ⟨by (with_reducible repeat (first | apply yac | apply yad | apply yab)); exact yae a8.out (fun _ hk => ⟨hk.1, hk.2.2⟩)⟩, ⟨by (with_reducible repeat (first | apply yac | apply yad | apply yab)); exact yae b0.out (fun _ hk => ⟨hk.1, hk.2.1⟩)⟩, ⟨upH HB.out⟩⟩
                 case round =>
                  clear H'; (try clear c1); (try clear p1); (try clear q1); (try clear hx1); (try clear c2); (try clear p2); (try clear c3); (try clear q3); (try clear c4); (try clear c6); (try clear f5); (try clear p6); (try clear c7); (try clear c7b0); (try clear c8); (try clear c8b0); (try clear c10); (try clear p10); (try clear q10); (try clear hx10); (try clear p11); (try clear q11); (try clear hx11); (try clear p13); (try clear q13); (try clear hx13); (try clear c17); (try clear e1); (try clear c18); (try clear c18b0); (try clear c19); (try clear c19b0); (try clear c21); (try clear c24); (try clear f0); (try clear c25); (try clear g3); (try clear c25b1); (try clear c26); (try clear g4); (try clear g5); (try clear c27); (try clear g6); (try clear g7); (try clear c29); (try clear c31); (try clear q31); (try clear c37); (try clear g8); (try clear c38); (try clear c38b0); (try clear c39); (try clear c39b0); (try clear c40); (try clear c40b0); (try clear b8); (try clear d0); (try clear d1); (try clear d2); (try clear p1); (try clear p10); (try clear p107); (try clear p11); (try clear p118); (try clear p136); (try clear p137); (try clear p2); (try clear p6); (try clear q031); (try clear q1); (try clear q10); (try clear q107); (try clear q11); (try clear q118); (try clear q136); (try clear q137); (try clear q3); (try clear q31); obtain ⟨d6, a4, rfl, HA, HK5, a2, a5, a8, b0, HB⟩ := hrel; have hl4_5 := (yaf a2.out).1
                  rw [hl4_5] at a2
                  (try simp only [hl4_5])
                  (try simp only [hl4_5] at a5)
                  (try simp only [hl4_5] at a8)
                  (try simp only [hl4_5] at b0)
                  cases gk with
                  | zero => exact absurd HA.out (by simp [spec_l1Sum.l4])
                  | succ k5 =>
                   have H := HA.out; clear HA
                   simp only [spec_l1Sum.l4] at H
                   by_cases c47 : a4 < 8
                   ·
                    rw [if_pos c47] at H
                    have h9 : decide (a4 < 8) = true := decide_eq_true c47; clear c47
                    by_cases c48 : 0 ≤ a4
                    ·
                     rw [if_pos c48] at H
                     replace c48 := decide_eq_true c48
                     by_cases c49 : a4 < (d6.length : Int)
                     ·
                      rw [if_pos c49] at H
                      replace c49 := decide_eq_true c49
                      by_cases c50 : a4 < (b3.length : Int)
                      ·
                       rw [if_pos c50] at H
                       replace c50 := decide_eq_true c50; obtain ⟨f7, A51, H⟩ := bindA H; (try dsimp only at H); obtain ⟨y144, hy144⟩ : ∃ y_ : List Int, y_ = (d6.set (a4 : Int).toNat f7) := ⟨_, rfl⟩
                       replace H : (spec_l1Sum.l4 k5 y144 a9 b4 a6 b3 (wrap64 (a4 + 1))) = some r := by first | (rw [hy144]; with_reducible exact H) | (have H2_ := (Option.bind_some _ _).symm.trans H; rw [hy144]; with_reducible exact H2_) | (have H2_ := (Option.bind_some _ _).symm.trans H; with_reducible exact H2_) | with_reducible exact H | (rw [hy144]; exact H) | exact H
                       have Ny144 := yaa hy144; clear hy144; have H' := yaa H; clear H
                       try go_wp2
                       replace a2 := yaa (yab a2.out); replace a5 := yaa (yab a5.out); replace a8 := yaa (yab a8.out); replace b0 := yaa (yab b0.out); replace HB := yaa (below_drew1 HB.out); have p141 : 0 ≤ (a4 : Int) := of_decide_eq_true (by assumption); have q141 : a4 < (d6.length : Int) := of_decide_eq_true (by assumption); obtain ⟨ad141, m6, d3⟩ := Kd.at_int (yaf a2.out).2.2 a4 p141 q141
                       cases m6
                       replace p141 := eq_true p141; replace q141 := eq_true q141; obtain ⟨p0, p3, j4⟩ := Kd.R_slice b0.out
                       (first | subst j4 | (injection j4 with f1_ f2_ f3_; have f4_ := f1_.symm; have f5_ := f3_.symm; clear f1_ f2_ f3_; subst f4_; subst f5_))
                       have p142 : 0 ≤ (a4 : Int) := of_decide_eq_true (by assumption); have q142 : a4 < (b3.length : Int) := of_decide_eq_true (by assumption); obtain ⟨ad142, m7, e0⟩ := Kd.at_int (yaf b0.out).2.2 a4 p142 q142
                       cases m7
                       replace p142 := eq_true p142; replace q142 := eq_true q142
                       refine start_ (n := 14) (S := fun w' => w'.cell? (ad141.add (a4).toNat) = some (.int .u64 (rd d6 a4)) ∧ w'.cell? (ad142.add (a4).toNat) = some (.int .u64 (rd b3 a4))) (ds := [13]) q60_12 (by kernel_rfl) rfl rfl ⟨d3, e0⟩ (fun hHeld => ?_); refine with_tabW spec_l1Sum.tab25 spec_l1Sum.bits25 (fun HT_ HW_ => ?_)
                       generalize wr.drew = w53 at a2 a5 a8 b0 HB d3 e0 hHeld ⊢
                       refine pz_ 0 78 q60_13 HT_ (by kernel_rfl) ?_
                       refine pz_ 1 79 q60_14 HT_ (by kernel_rfl) ?_
                       refine pz_ 2 80 q60_15 HT_ (by kernel_rfl) ?_
                       refine pz_ 3 81 q60_16 HT_ (by kernel_rfl) ?_
                       refine pz_ 4 82 q60_17 HT_ (by kernel_rfl) ?_
                       refine pz_ 6 84 q60_18 HT_ (by kernel_rfl) ?_
                       refine pz_ 7 85 q60_19 HT_ (by kernel_rfl) ?_
                       refine pz_ 8 86 q60_20 HT_ (by kernel_rfl) ?_
                       refine tz_ 5 83 q60_21 HT_ HW_ (by kernel_rfl) hHeld ?_
                       refine tz_ 9 87 q60_22 HT_ HW_ (by kernel_rfl) hHeld ?_
                       refine pz_ 10 88 q60_23 HT_ (by kernel_rfl) ?_
                       refine one_ (i := 11) (N := some 89) q60_24 rfl rfl (one_of HT_.out (by kernel_rfl)) (by decide) (fun K hK => ?_)
                       refine goes_ Tryd.func74 (by kernel_rfl) rfl #[.int .u64 (IntKind.u64.wrap ((rd d6 a4) + (rd b3 a4)))] (by rfl) rfl rfl (by (try simp only [List.map_toArray, List.map_cons, List.map_nil]); first | done | rfl | (simp only [List.length_drop, List.length_take]; rfl)) ?_
                       with_reducible refine (spec_l1Word.calls (IntKind.u64.wrap ((rd d6 a4) + (rd b3 a4))) f7 _ A51.out).mono ?_
                       rintro e w' ⟨rfl, ⟨nd, rfl⟩⟩; refine ⟨_, rfl, ?_⟩; have p52 : 0 ≤ (a4 : Int) := of_decide_eq_true (by assumption); have q52 : (a4 : Int) < ((d6.length : Int) : Int) := of_decide_eq_true (by assumption); obtain ⟨go52, p4, j5, j6, gl52, p7, HG52⟩ := Kd.R_form a2.out (by omega)
                       (first | cases j5 | (injection j5 with ea_ en_ ec_; (first | subst ea_ | (injection ea_ with ea_; subst ea_)); subst ec_; clear en_))
                       have GB52 := yaa j6; have GG52 := yaa HG52; clear j6 gl52 HG52
                       (first | simp only [add_plain] at d3 | skip)
                       obtain ⟨i1, hf52_0⟩ := Kd.R_celln 0 a2.out (a4 : Int) p52 q52; replace p52 := eq_true p52; replace q52 := eq_true q52; have HP55 := Kd.R_putn a2.out (a4 : Int) f7
                       rw [← Ny144.out] at HP55
                       have HQ55 := yaa HP55; clear HP55
                       refine hK.out _ _ ⟨hHeld.1, hHeld.2⟩ (fun hHeld => ?_)
                       clear hK K
                       refine norm_ (a' := ?_) ?_ ?_
                       rotate_left
                       ·
                        show Act.put _ (some 89) _ = _
                        simp only [Act.put, List.setIfInBounds_toArray, List.set_cons_zero, List.set_cons_succ, i64_w, i32_w]
                        rfl
                       refine pz_ 12 90 q60_25 HT_ (by kernel_rfl) ?_
                       refine last_ (i := 13) (N := none) q60_26 rfl rfl (one_of HT_.out (by kernel_rfl)) (by decide) (fun K hK => ?_)
                       refine skip_ (w1 := ?_) (by rfl) rfl ?_ ?_
                       rotate_left
                       ·
                        go_simp
                        rfl
                       refine hK.out _ _ ?_
                       clear hK K
                       refine done_ (done_of HT_.out (by kernel_rfl)) ?_
                       try go_wp2
                       (try simp only [← hl4_5])
                       go_roundg k5
                       case measure => have := HK1.out; have := HK2.out; have := HK3.out; have := HK4.out; have := HK5.out; omega
                       case rel => exact ⟨(y144), (wrap64 (a4 + 1)), (by first | rfl | (simp; done) | (simp [*]; done)), H', ⟨by have := HK1.out; have := HK2.out; have := HK3.out; have := HK4.out; have := HK5.out; omega⟩, ⟨by (try simp only [hl4_5]); first | exact HQ55.out | exact upR HQ55.out⟩, ⟨by (try simp only [hl4_5]); (with_reducible repeat (first | apply yac | apply yad | apply yab)); exact yae (Kd.R_far (p := ⟨go52, (a4 : Int).toNat, none⟩) (Kd.R_types a5.out GG52.out (by decide)) (fun _ hk => hk.2) (.int .u64 f7)) (fun _ hk => trivial)⟩, ⟨by (try simp only [hl4_5]); (with_reducible repeat (first | apply yac | apply yad | apply yab)); exact yae (Kd.R_far (p := ⟨go52, (a4 : Int).toNat, none⟩) (yae a8.out (fun k_ hk => (⟨hk, fun e_ => hk.1 (by rw [e_]; rfl)⟩ : _ ∧ k_ ≠ go52))) (fun _ hk => hk.2) (.int .u64 f7)) (fun _ hk => ⟨hk.1.1, hk.1.2⟩)⟩, ⟨by (try simp only [hl4_5]); (with_reducible repeat (first | apply yac | apply yad | apply yab)); exact yae (Kd.R_far (p := ⟨go52, (a4 : Int).toNat, none⟩) (yae b0.out (fun k_ hk => (⟨hk, fun e_ => hk.1 (by rw [e_]; rfl)⟩ : _ ∧ k_ ≠ go52))) (fun _ hk => hk.2) (.int .u64 f7)) (fun _ hk => ⟨hk.1.1, hk.1.2⟩)⟩, ⟨by repeat (with_reducible first | exact HB.out | apply below_alloc | apply pw_below_drewN | apply below_drew1 | refine below_set ?_ (Aside0.out ‹_›))⟩⟩
                      ·
                       rw [if_neg c50] at H
                       exact absurd H (by simp)
                     ·
                      rw [if_neg c49] at H
                      exact absurd H (by simp)
                    ·
                     rw [if_neg c48] at H
                     exact absurd H (by simp)
                   ·
                    rw [if_neg c47] at H
                    have h9 : decide (a4 < 8) = false := decide_eq_false c47; clear c47; have H' := yaa H; clear H
                    go_wp2
                    (try simp only [← hl4_5])
                    go_roundg k5
                    case measure => have := HK1.out; have := HK2.out; have := HK3.out; have := HK4.out; have := HK5.out; omega
                    case rel => exact ⟨(d6), (wrap64 (a6 + 64)), (by first | rfl | (simp; done) | (simp [*]; done)), H', ⟨by have := HK1.out; have := HK2.out; have := HK3.out; have := HK4.out; have := HK5.out; omega⟩, ⟨by (try simp only [hl4_5]); (with_reducible repeat (first | apply yac | apply yad | apply yab)); exact yae a2.out (fun _ hk => hk.1)⟩, ⟨by (try simp only [hl4_5]); first | exact a5.out | exact upR a5.out⟩, ⟨by (try simp only [hl4_5]); (with_reducible repeat (first | apply yac | apply yad | apply yab)); exact yae a8.out (fun _ hk => hk.1)⟩, ⟨upH HB.out⟩⟩
             ·
              rw [if_neg c29] at H
              exact absurd H (by simp)
            ·
             rw [if_neg c27] at H
             exact absurd H (by simp)
           ·
            rw [if_neg c26] at H
            exact absurd H (by simp)
          ·
           rw [if_neg c25] at H
           exact absurd H (by simp)
         ·
          rw [if_neg c24] at H
          have f0 : decide (a6 < (a9.length : Int)) = false := decide_eq_false c24; clear c24; obtain ⟨y145, hy145⟩ : ∃ y_ : List Int, y_ = (([] : List Int)) := ⟨_, rfl⟩
          replace H : (spec_l1Sum.l5 k3 a3 y145 0) = some r := by first | (rw [hy145]; with_reducible exact H) | (have H2_ := (Option.bind_some _ _).symm.trans H; rw [hy145]; with_reducible exact H2_) | (have H2_ := (Option.bind_some _ _).symm.trans H; with_reducible exact H2_) | with_reducible exact H | (rw [hy145]; exact H) | exact H
          have Ny145 := yaa hy145; clear hy145; have H' := yaa H; clear H; obtain ⟨p8, p9, m8⟩ := Kd.R_slice a5.out; subst m8
          go_wp2_with (first | ((with_reducible refine gd_ 91 rfl ?_); refine Kd.R_lit (yag .u8) _ 5 ?hg (N := 91) ?hd (xs := ([] : List Int)) (inner := []) (ok := fun _ => True) (okp := fun _ => True) ?hr ?hp (fun _ hk => hk) trivial (Below.refl _ _) (Nat.le_refl _) (by simp) ?_; (case hd => rfl); (case hg => rfl); (case hr => first | (go_simp; done) | (go_simp; rfl)); (case hp => exact (Reps.none _ _)); intro q0 w57 f8 hb hg_ hnew_; clear hg_ hnew_; (first | rw [← Ny145.out] at f8 | (simp only [Int.reduceToNat] at f8; rw [← Ny145.out] at f8)); replace a2 := yaa (Kd.R_below (upR a2.out) hb); replace a8 := yaa (Kd.R_below (upR a8.out) hb); have j7 := yaa (Kd.R_lower (Kd.R_new' f8 (Kd.R_lt (upR a5.out))) (below_size (upH HB.out))); replace a5 := yaa (yai (upR a5.out) (Kd.R_base f8) hb); replace HB := yaa (below_step (upH HB.out) hb); clear hb f8))
          (try simp only [Act.put, List.setIfInBounds_toArray, List.set_cons_zero, List.set_cons_succ])
          go_loopg [14, 15] k3 (fun kq v14 v15 w' => ∃ (c9 : List Int) (a1 : Int), v15 = .int .i64 a1 ∧ yah (spec_l1Sum.l5 kq a3 c9 a1 = some r) ∧ yah (kq ≤ k3) ∧ yah (Kd.R (yag .u64) 103 w' w.heap.size (fun _ => True) u4 a3) ∧ yah (Kd.R (yag .u8) 5 w' w.heap.size (fun _ => True) v14 c9) ∧ yah (Below w.heap.size w w'))
          case atStart => exact ⟨(y145), (0), (by first | rfl | (simp; done) | (simp [*]; done)), H', ⟨Nat.le_refl _⟩, ⟨by (with_reducible repeat (first | apply yac | apply yad | apply yab)); exact yae a2.out (fun _ hk => trivial)⟩, ⟨by (with_reducible repeat (first | apply yac | apply yad | apply yab)); exact yae j7.out (fun _ hk => trivial)⟩, ⟨upH HB.out⟩⟩
          case round =>
           clear H'; (try clear c1); (try clear p1); (try clear q1); (try clear hx1); (try clear c2); (try clear p2); (try clear c3); (try clear q3); (try clear c4); (try clear c5); (try clear p5); (try clear q5); (try clear hx5); (try clear hf5); (try clear c6); (try clear f5); (try clear p6); (try clear c7); (try clear c7b0); (try clear c8); (try clear c8b0); (try clear c10); (try clear p10); (try clear q10); (try clear hx10); (try clear p11); (try clear q11); (try clear hx11); (try clear p13); (try clear q13); (try clear hx13); (try clear p14); (try clear q14); (try clear hx14); (try clear c17); (try clear e1); (try clear c18); (try clear c18b0); (try clear c19); (try clear c19b0); (try clear c21); (try clear c24); (try clear f0); (try clear c25); (try clear g3); (try clear c25b1); (try clear c26); (try clear g4); (try clear g5); (try clear c27); (try clear g6); (try clear g7); (try clear c29); (try clear c31); (try clear q31); (try clear c37); (try clear g8); (try clear c38); (try clear c38b0); (try clear c39); (try clear c39b0); (try clear c40); (try clear c40b0); (try clear c47); (try clear h9); (try clear c48); (try clear c48b0); (try clear c49); (try clear c49b0); (try clear c50); (try clear c50b0); (try clear p52); (try clear q52); (try clear hx52); (try clear hf52); (try clear b8); (try clear d0); (try clear d1); (try clear d2); (try clear d3); (try clear e0); (try clear i1); (try clear p1); (try clear p10); (try clear p107); (try clear p11); (try clear p118); (try clear p13); (try clear p136); (try clear p137); (try clear p141); (try clear p142); (try clear p2); (try clear p52); (try clear p6); (try clear q031); (try clear q1); (try clear q10); (try clear q107); (try clear q11); (try clear q118); (try clear q13); (try clear q136); (try clear q137); (try clear q141); (try clear q142); (try clear q3); (try clear q31); (try clear q52); obtain ⟨c9, a1, rfl, HA, HK4, a2, b5, HB⟩ := hrel
           cases gk with
           | zero => exact absurd HA.out (by simp [spec_l1Sum.l5])
           | succ k4 =>
            have H := HA.out; clear HA
            simp only [spec_l1Sum.l5] at H
            by_cases c59 : a1 < 8
            ·
             rw [if_pos c59] at H
             have j8 : decide (a1 < 8) = true := decide_eq_true c59; clear c59
             by_cases c60 : 0 ≤ a1
             ·
              rw [if_pos c60] at H
              replace c60 := decide_eq_true c60
              by_cases c61 : a1 < (a3.length : Int)
              ·
               rw [if_pos c61] at H
               replace c61 := decide_eq_true c61; obtain ⟨y152, hy152⟩ : ∃ y_ : List Int, y_ = (([((rd a3 a1) / 16777216) % 256, ((rd a3 a1) / 65536) % 256, ((rd a3 a1) / 256) % 256, (rd a3 a1) % 256] : List Int)) := ⟨_, rfl⟩
               replace H : (if c9.length + y152.length < 140737488355328 then (spec_l1Sum.l5 k4 a3 (c9 ++ y152) (wrap64 (a1 + 1))) else (none)) = some r := by first | (rw [hy152]; with_reducible exact H) | (have H2_ := (Option.bind_some _ _).symm.trans H; rw [hy152]; with_reducible exact H2_) | (have H2_ := (Option.bind_some _ _).symm.trans H; with_reducible exact H2_) | with_reducible exact H | (rw [hy152]; exact H) | exact H
               have Ny152 := yaa hy152; clear hy152
               by_cases c62 : c9.length + y152.length < 140737488355328
               ·
                rw [if_pos c62] at H
                have LMc62 := yaa c62; clear c62; obtain ⟨y155, hy155⟩ : ∃ y_ : List Int, y_ = (c9 ++ y152) := ⟨_, rfl⟩
                replace H : (spec_l1Sum.l5 k4 a3 y155 (wrap64 (a1 + 1))) = some r := by first | (rw [hy155]; with_reducible exact H) | (have H2_ := (Option.bind_some _ _).symm.trans H; rw [hy155]; with_reducible exact H2_) | (have H2_ := (Option.bind_some _ _).symm.trans H; with_reducible exact H2_) | with_reducible exact H | (rw [hy155]; exact H) | exact H
                have Ny155 := yaa hy155; clear hy155; have H' := yaa H; clear H
                try go_wp2
                replace a2 := yaa (yab a2.out); replace b5 := yaa (yab b5.out); replace HB := yaa (below_drew1 HB.out); obtain ⟨q6, q7, j9⟩ := Kd.R_slice a2.out
                (first | subst j9 | (injection j9 with f1_ f2_ f3_; have f4_ := f1_.symm; have f5_ := f3_.symm; clear f1_ f2_ f3_; subst f4_; subst f5_))
                have p148 : 0 ≤ (a1 : Int) := of_decide_eq_true (by assumption); have q148 : a1 < (a3.length : Int) := of_decide_eq_true (by assumption); obtain ⟨ad148, m9, f1⟩ := Kd.at_int (yaf a2.out).2.2 a1 p148 q148
                cases m9
                replace p148 := eq_true p148; replace q148 := eq_true q148; have p149 : 0 ≤ (a1 : Int) := of_decide_eq_true (by assumption); have q149 : a1 < (a3.length : Int) := of_decide_eq_true (by assumption); obtain ⟨ad149, n0, f2⟩ := Kd.at_int (yaf a2.out).2.2 a1 p149 q149; obtain rfl : ad148 = ad149 := (by injection n0); replace p149 := eq_true p149; replace q149 := eq_true q149; have p150 : 0 ≤ (a1 : Int) := of_decide_eq_true (by assumption); have q150 : a1 < (a3.length : Int) := of_decide_eq_true (by assumption); obtain ⟨ad150, n1, f3⟩ := Kd.at_int (yaf a2.out).2.2 a1 p150 q150; obtain rfl : ad148 = ad150 := (by injection n1); replace p150 := eq_true p150; replace q150 := eq_true q150; have p151 : 0 ≤ (a1 : Int) := of_decide_eq_true (by assumption); have q151 : a1 < (a3.length : Int) := of_decide_eq_true (by assumption); obtain ⟨ad151, n2, f4⟩ := Kd.at_int (yaf a2.out).2.2 a1 p151 q151; obtain rfl : ad148 = ad151 := (by injection n2); replace p151 := eq_true p151; replace q151 := eq_true q151
                refine start_ (n := 27) (S := fun w' => w'.cell? (ad148.add (a1).toNat) = some (.int .u64 (rd a3 a1)) ∧ w'.cell? (ad148.add (a1).toNat) = some (.int .u64 (rd a3 a1)) ∧ w'.cell? (ad148.add (a1).toNat) = some (.int .u64 (rd a3 a1)) ∧ w'.cell? (ad148.add (a1).toNat) = some (.int .u64 (rd a3 a1))) (ds := [25]) q60_27 (by kernel_rfl) rfl rfl ⟨f1, f2, f3, f4⟩ (fun hHeld => ?_); refine with_tabW spec_l1Sum.tab30 spec_l1Sum.bits30 (fun HT_ HW_ => ?_)
                generalize wr.drew = w63 at a2 b5 HB f1 f2 f3 f4 hHeld ⊢
                refine pz_ 0 96 q60_28 HT_ (by kernel_rfl) ?_
                refine pz_ 1 97 q60_29 HT_ (by kernel_rfl) ?_
                refine pz_ 2 98 q60_30 HT_ (by kernel_rfl) ?_
                refine pz_ 3 99 q60_31 HT_ (by kernel_rfl) ?_
                refine pz_ 7 103 q60_32 HT_ (by kernel_rfl) ?_
                refine pz_ 8 104 q60_33 HT_ (by kernel_rfl) ?_
                refine pz_ 9 105 q60_34 HT_ (by kernel_rfl) ?_
                refine pz_ 13 109 q60_35 HT_ (by kernel_rfl) ?_
                refine pz_ 14 110 q60_36 HT_ (by kernel_rfl) ?_
                refine pz_ 15 111 q60_37 HT_ (by kernel_rfl) ?_
                refine pz_ 19 115 q60_38 HT_ (by kernel_rfl) ?_
                refine pz_ 20 116 q60_39 HT_ (by kernel_rfl) ?_
                refine pz_ 21 117 q60_40 HT_ (by kernel_rfl) ?_
                refine tz_ 4 100 q60_41 HT_ HW_ (by kernel_rfl) hHeld ?_
                refine pz_ 5 101 q60_42 HT_ (by kernel_rfl) ?_
                refine pz_ 6 102 q60_43 HT_ (by kernel_rfl) ?_
                refine tz_ 10 106 q60_44 HT_ HW_ (by kernel_rfl) hHeld ?_
                refine pz_ 11 107 q60_45 HT_ (by kernel_rfl) ?_
                refine pz_ 12 108 q60_46 HT_ (by kernel_rfl) ?_
                refine tz_ 16 112 q60_47 HT_ HW_ (by kernel_rfl) hHeld ?_
                refine pz_ 17 113 q60_48 HT_ (by kernel_rfl) ?_
                refine pz_ 18 114 q60_49 HT_ (by kernel_rfl) ?_
                refine tz_ 22 118 q60_50 HT_ HW_ (by kernel_rfl) hHeld ?_
                refine pz_ 23 119 q60_51 HT_ (by kernel_rfl) ?_
                refine one_ (i := 24) (N := some 120) q60_52 rfl rfl (one_of HT_.out (by kernel_rfl)) (by decide) (fun K hK => ?_)
                refine Kd.R_lit_step (yag .u8) _ 5 ?hg (N := 120) ?hd (xs := ([((rd a3 a1) / 16777216) % 256, ((rd a3 a1) / 65536) % 256, ((rd a3 a1) / 256) % 256, (rd a3 a1) % 256] : List Int)) (inner := [.int .u8 (((rd a3 a1) / 16777216) % 256), .int .u8 (((rd a3 a1) / 65536) % 256), .int .u8 (((rd a3 a1) / 256) % 256), .int .u8 ((rd a3 a1) % 256)]) (ok := fun _ => True) (okp := fun _ => True) ?hr ?hp (fun _ hk => hk) trivial (Below.refl _ _) (Nat.le_refl _) (by simp) ?_; (case hd => rfl); (case hg => rfl); (case hr => first | (go_simp; done) | (go_simp; rfl)); (case hp => exact (Reps.one (show Kd.M (yag .u8) _ _ _ (((rd a3 a1) / 16777216) % 256) [.int .u8 (((rd a3 a1) / 16777216) % 256)] from rfl) (Reps.one (show Kd.M (yag .u8) _ _ _ (((rd a3 a1) / 65536) % 256) [.int .u8 (((rd a3 a1) / 65536) % 256)] from rfl) (Reps.one (show Kd.M (yag .u8) _ _ _ (((rd a3 a1) / 256) % 256) [.int .u8 (((rd a3 a1) / 256) % 256)] from rfl) (Reps.one (show Kd.M (yag .u8) _ _ _ ((rd a3 a1) % 256) [.int .u8 ((rd a3 a1) % 256)] from rfl) (Reps.none _ _))))))
                intro q8 w65 f9 hb hg_ hnew_; have HS0_ := (hb.cell (World.block_lt_of_cell? _ _ (hHeld.1))).trans (hHeld.1); have HS1_ := (hb.cell (World.block_lt_of_cell? _ _ (hHeld.2.1))).trans (hHeld.2.1); have HS2_ := (hb.cell (World.block_lt_of_cell? _ _ (hHeld.2.2.1))).trans (hHeld.2.2.1); have HS3_ := (hb.cell (World.block_lt_of_cell? _ _ (hHeld.2.2.2))).trans (hHeld.2.2.2); clear hg_ hnew_
                (first | rw [← Ny152.out] at f9 | (simp only [Int.reduceToNat] at f9; rw [← Ny152.out] at f9))
                replace a2 := yaa (Kd.R_below (upR a2.out) hb); have e5 := yaa (Kd.R_lower (Kd.R_new' f9 (Kd.R_lt (upR b5.out))) (below_size (upH HB.out))); replace b5 := yaa (yai (upR b5.out) (Kd.R_base f9) hb); replace HB := yaa (below_step (upH HB.out) hb); clear hb f9; obtain ⟨n3, n4, k0⟩ := Kd.R_slice e5.out
                (first | subst k0 | (injection k0 with f1_ f2_ f3_; have f4_ := f1_.symm; have f5_ := f3_.symm; clear f1_ f2_ f3_; subst f4_; subst f5_))
                refine hK.out _ _ ⟨HS0_, HS1_, HS2_, HS3_⟩ (fun hHeld => ?_)
                clear hK K
                refine norm_ (a' := ?_) ?_ ?_
                rotate_left
                ·
                 show Act.put _ (some 120) _ = _
                 simp only [Act.put, List.setIfInBounds_toArray, List.set_cons_zero, List.set_cons_succ, i64_w, i32_w]
                 rfl
                refine last_ (i := 25) (N := some 121) q60_53 rfl rfl (one_of HT_.out (by kernel_rfl)) (by decide) (fun K hK => ?_)
                refine Kd.R_append_rows_step (yag .u8) (w0 := w) w.heap.size (by rfl) (.tmp 96) (.tmp 120) 22 5 (.int .u8 0) 1 rfl Tryd.underlying22 info5 rfl (by decide) (by omega) u14 c9 y152 _ _ _ (fun k_ => some k_ ≠ (.slice n3 y152.length n4 : Value).ownBlock) (fun _ => False) rfl rfl ?aO ?aR (fun _ _ h => h) (fun _ h => h.elim) ?aF ?aB ?aS ?aL ?_
                (case aR => repeat (first | exact (yaf e5.out).2.2 | (with_reducible refine Kd.C_alloc ?_ _) | (with_reducible refine Kd.C_drewN ?_ _) | (with_reducible refine Kd.C_drew ?_)))
                (case aB => exact (upH HB.out))
                (case aF => exact (fun k_ hk => Kd.fresh' (Kd.R_lt (upR e5.out)) k_ hk))
                (case aO => exact (by (with_reducible repeat (first | apply yac | apply yad | apply yab)); exact yae b5.out (fun _ hk => by first | exact hk.2 | exact True.intro)))
                (case aS => exact (below_size (upH HB.out)))
                (case aL => have := LMc62.out; omega)
                intro q9 w67 ho hb hg hat
                rw [← Ny155.out] at ho
                replace a2 := yaa (Kd.R_over' (upR a2.out) (Kd.R_typed (upR b5.out)) (by decide) hg); replace e5 := yaa (Kd.R_after (ok := (fun _ => True)) (upR e5.out) hg hat); replace HB := yaa (hb); have k6 := yaa (ho); clear b5; clear ho hb hg hat
                refine hK.out _ _ ?_
                clear hK K
                refine norm_ (a' := ?_) ?_ ?_
                rotate_left
                ·
                 show Act.put _ (some 121) _ = _
                 simp only [Act.put, List.setIfInBounds_toArray, List.set_cons_zero, List.set_cons_succ, i64_w, i32_w]
                 rfl
                refine pz_ 26 14 q60_54 HT_ (by kernel_rfl) ?_
                refine done_ (done_of HT_.out (by kernel_rfl)) ?_
                try go_wp2
                go_roundg k4
                case measure => have := HK1.out; have := HK2.out; have := HK3.out; have := HK4.out; omega
                case rel => exact ⟨(y155), (wrap64 (a1 + 1)), (by first | rfl | (simp; done) | (simp [*]; done)), H', ⟨by have := HK1.out; have := HK2.out; have := HK3.out; have := HK4.out; omega⟩, ⟨by first | exact a2.out | exact upR a2.out⟩, ⟨by (with_reducible repeat (first | apply yac | apply yad | apply yab)); exact yae k6.out (fun _ hk => trivial)⟩, ⟨upH HB.out⟩⟩
               ·
                rw [if_neg c62] at H
                exact absurd H (by simp)
              ·
               rw [if_neg c61] at H
               exact absurd H (by simp)
             ·
              rw [if_neg c60] at H
              exact absurd H (by simp)
            ·
             rw [if_neg c59] at H
             have j8 : decide (a1 < 8) = false := decide_eq_false c59; clear c59; obtain rfl := Option.some.inj H
             go_wp2
             go_ret
             exact ⟨_, by first | rfl | (simp [*, errW_none, errW_some] <;> rfl), by first | exact b5.out | exact upR b5.out, upH HB.out⟩
end
section
open Go.Proofs.YtmbkhindhndccaaDoorW.PrintWords.Aside0 renaming mk → yaa

mutual
def spec_ShaMac.j0 : Nat → List Int → List Int → Bool → Option (List Int)
 | 0, _, _, _ => none
 | k + 1, x0, x1, x16 => if x16 = true then (some (([] : List Int))) else ((some (([] : List Int) : List Int)).bind fun y104 => (if y104.length + x0.length < 140737488355328 then ((some (y104 ++ x0 : List Int)).bind fun y107 => (if (y107.length : Int) > 64 then ((spec_l1Sum.f k y107).bind fun t110 => (spec_ShaMac.j1 k x1 t110)) else (spec_ShaMac.j1 k x1 y107))) else (none)))
def spec_ShaMac.j1 : Nat → List Int → List Int → Option (List Int)
 | 0, _, _ => none
 | k + 1, x1, x5 => spec_ShaMac.l0 k x1 x5
def spec_ShaMac.l0 : Nat → List Int → List Int → Option (List Int)
 | 0, _, _ => none
 | k + 1, x1, x5 => if (x5.length : Int) < 64 then (if x5.length < 140737488355328 then (spec_ShaMac.l0 k x1 (x5 ++ [0])) else (none)) else (spec_ShaMac.l1 k x1 x5 (([] : List Int)) (([] : List Int)) 0)
def spec_ShaMac.l1 : Nat → List Int → List Int → List Int → List Int → Int → Option (List Int)
 | 0, _, _, _, _, _ => none
 | k + 1, x1, x5, x6, x7, x8 => if x8 < 64 then (if 0 ≤ x8 then (if x8 < (x5.length : Int) then (if x6.length < 140737488355328 then (if x7.length < 140737488355328 then (spec_ShaMac.l1 k x1 x5 (x6 ++ [Go.bits .xor .u8 (rd x5 x8) 54]) (x7 ++ [Go.bits .xor .u8 (rd x5 x8) 92]) (wrap64 (x8 + 1))) else (none)) else (none)) else (none)) else (none)) else (if x6.length + x1.length < 140737488355328 then ((spec_l1Sum.f k (x6 ++ x1)).bind fun t133 => (if x7.length + t133.length < 140737488355328 then ((spec_l1Sum.f k (x7 ++ t133)).bind fun t139 => (some t139)) else (none))) else (none))
end
def spec_ShaMac.f (k : Nat) (l0 : List Int) (l1 : List Int) : Option (List Int) := if (l0.length : Int) > 500 then (spec_ShaMac.j0 k l0 l1 true) else (spec_ShaMac.j0 k l0 l1 (decide ((l1.length : Int) > 500)))
set_option maxHeartbeats 8000000 in
set_option maxRecDepth 100000 in
theorem spec_ShaMac.calls (k : Nat) (A0 : Option Addr) (c0 : Nat) (l0 : List Int) (A1 : Option Addr) (c1 : Nat) (l1 : List Int) (r : List Int) (w : World) (hr0 : Kd.C (Kd.int .u8) w A0 l0.length l0) (hc0 : l0.length ≤ c0) (hr1 : Kd.C (Kd.int .u8) w A1 l1.length l1) (hc1 : l1.length ≤ c1) (h : spec_ShaMac.f k l0 l1 = some r) :
  Calls Tryd.prog 39 #[.slice A0 l0.length c0, .slice A1 l1.length c1] w fun e w' => ∃ v0_ : Value, e = .returned (v0_) ∧ Kd.R (Kd.int .u8) 5 w' w.heap.size (fun _ => True) v0_ r ∧ Below w.heap.size w w' := by
 have HR0 := yaa hr0; have HC0 := yaa hc0; clear hr0 hc0; have HR1 := yaa hr1; have HC1 := yaa hc1; clear hr1 hc1; have HB := yaa (Below.refl w.heap.size w); have H : (if (l0.length : Int) > 500 then (spec_ShaMac.j0 k l0 l1 true) else (spec_ShaMac.j0 k l0 l1 (decide ((l1.length : Int) > 500)))) = some r := h; clear h; have HC3 := yaa H; clear H
 go_enter Tryd.func39, Tryd.ntmps39
 go_upto_region 1 with (fail)
 go_cut [16] (fun v16 wc => ∃ (kq : Nat) (b9 : Bool), v16 = .bool b9 ∧ Aside0 (spec_ShaMac.j0 kq l0 l1 b9 = some r) ∧ Aside0 (kq ≤ k) ∧ Aside0 (Below w.heap.size w wc))
 case first =>
  have H := HC3.out; clear HC3
  by_cases c4 : (l0.length : Int) > 500
  ·
   rw [if_pos c4] at H
   have b3 : decide (500 < (l0.length : Int)) = true := decide_eq_true c4; have d0 : decide (500 < l0.length) = true := decide_eq_true (by omega); clear c4
   (first | rw [b3] | (simp only [i64_w, i32_w]; rw [b3]) | skip)
   have H' := yaa H; clear H
   go_wp2
   go_meet
   case rel => exact ⟨_, (true), (by first | rfl | (simp; done) | (simp [*]; done)), H', ⟨by first | omega | exact Nat.le_refl _⟩, ⟨upH HB.out⟩⟩
  ·
   rw [if_neg c4] at H
   have b3 : decide (500 < (l0.length : Int)) = false := decide_eq_false c4; have d0 : decide (500 < l0.length) = false := decide_eq_false (by omega); clear c4
   (first | rw [b3] | (simp only [i64_w, i32_w]; rw [b3]) | skip)
   have H' := yaa H; clear H
   go_wp2
   go_meet
   case rel => exact ⟨_, (decide ((l1.length : Int) > 500)), (by first | rfl | (simp; done) | (simp [*]; done)), H', ⟨by first | omega | exact Nat.le_refl _⟩, ⟨upH HB.out⟩⟩
 case rest =>
  clear HC3; (try clear c1); (try clear p2); (try clear c3); (try clear c4); (try clear b3); (try clear d0); obtain ⟨kq, b9, rfl, HA, HJ2, HB⟩ := hcut
  cases kq with
  | zero => exact absurd HA.out (by simp [spec_ShaMac.j0])
  | succ kj2 =>
   have H := HA.out; clear HA
   simp only [spec_ShaMac.j0] at H
   by_cases c5 : b9 = true
   ·
    subst c5
    rw [if_pos rfl] at H
    obtain ⟨y101, hy101⟩ : ∃ y_ : List Int, y_ = (([] : List Int)) := ⟨_, rfl⟩
    replace H : (some y101) = some r := by first | (rw [hy101]; with_reducible exact H) | (have H2_ := (Option.bind_some _ _).symm.trans H; rw [hy101]; with_reducible exact H2_) | (have H2_ := (Option.bind_some _ _).symm.trans H; with_reducible exact H2_) | with_reducible exact H | (rw [hy101]; exact H) | exact H
    have Ny101 := yaa hy101; clear hy101; obtain rfl := Option.some.inj H
    go_wp2_with (first | ((with_reducible refine gd_ 17 rfl ?_); (try (refine gate_guard (by rfl) ?_; dsimp only)); refine Kd.R_lit (Kd.int .u8) _ 5 ?hg (N := 17) ?hd (xs := ([] : List Int)) (inner := []) (ok := fun _ => True) (okp := fun _ => True) ?hr ?hp (fun _ hk => hk) trivial (Below.refl _ _) (Nat.le_refl _) (by simp) ?_; (case hd => rfl); (case hg => rfl); (case hr => first | (go_simp; done) | (go_simp; rfl)); (case hp => exact (Reps.none _ _)); intro g8 w6 ho7 hb hg_ hnew_; clear hg_ hnew_; (first | rw [← Ny101.out] at ho7 | (simp only [Int.reduceToNat] at ho7; rw [← Ny101.out] at ho7)); have d7 := yaa (Kd.R_lower ho7 (below_size (upH HB.out))); replace HB := yaa (below_step (upH HB.out) hb); clear hb ho7))
    go_ret
    exact ⟨_, by first | rfl | (simp [*, errW_none, errW_some] <;> rfl), by first | exact d7.out | exact upR d7.out, upH HB.out⟩
   ·
    replace c5 := Bool.eq_false_iff.mpr c5
    subst c5
    rw [if_neg (show ¬ (false = true) by decide)] at H
    obtain ⟨y104, hy104, H⟩ := bindY H; (try dsimp only at H); have Ny104 := yaa hy104; clear hy104
    by_cases c8 : y104.length + l0.length < 140737488355328
    ·
     rw [if_pos c8] at H
     have LMc8 := yaa c8; clear c8; obtain ⟨y107, hy107⟩ : ∃ y_ : List Int, y_ = (y104 ++ l0) := ⟨_, rfl⟩
     replace H : (if (y107.length : Int) > 64 then ((spec_l1Sum.f kj2 y107).bind fun d2 => (spec_ShaMac.j1 kj2 l1 d2)) else (spec_ShaMac.j1 kj2 l1 y107)) = some r := by first | (rw [hy107]; with_reducible exact H) | (have H2_ := (Option.bind_some _ _).symm.trans H; rw [hy107]; with_reducible exact H2_) | (have H2_ := (Option.bind_some _ _).symm.trans H; with_reducible exact H2_) | with_reducible exact H | (rw [hy107]; exact H) | exact H
     have Ny107 := yaa hy107; clear hy107; have HC9 := yaa H; clear H
     go_upto_if 23 with (first | ((with_reducible refine gd_ 18 rfl ?_); (try (refine gate_guard (by rfl) ?_; dsimp only)); refine Kd.R_lit (Kd.int .u8) _ 5 ?hg (N := 18) ?hd (xs := ([] : List Int)) (inner := []) (ok := fun _ => True) (okp := fun _ => True) ?hr ?hp (fun _ hk => hk) trivial (Below.refl _ _) (Nat.le_refl _) (by simp) ?_; (case hd => rfl); (case hg => rfl); (case hr => first | (go_simp; done) | (go_simp; rfl)); (case hp => exact (Reps.none _ _)); intro f2 w10 d1 hb hg_ hnew_; clear hg_ hnew_; (first | rw [← Ny104.out] at d1 | (simp only [Int.reduceToNat] at d1; rw [← Ny104.out] at d1)); have d8 := yaa (Kd.R_lower d1 (below_size (upH HB.out))); replace HB := yaa (below_step (upH HB.out) hb); clear hb d1) | ((with_reducible refine gate_builtin (b := .append) (xs := #[.tmp 18, .tmp 19]) rfl ?_); (try (refine gate_guard (by rfl) ?_; dsimp only)); at_builtin; refine Kd.R_append_rows (Kd.int .u8) (w0 := w) w.heap.size rfl (.tmp 18) (.tmp 19) 22 5 (.int .u8 0) 1 rfl Tryd.underlying22 info5 rfl (by decide) (by omega) f2 y104 l0 _ _ _ (fun _ => True) (fun _ => False) rfl rfl ?aO ?aR (fun _ _ h => h) (fun _ h => h.elim) ?aF ?aB ?aS ?aL ?_; (case aR => repeat (first | exact (Kd.C_below HR0.out HB.out) | (with_reducible refine Kd.C_alloc ?_ _) | (with_reducible refine Kd.C_drewN ?_ _) | (with_reducible refine Kd.C_drew ?_))); (case aB => exact (upH HB.out)); (case aF => exact (fun _ _ => trivial)); (case aO => exact (upR d8.out)); (case aS => exact (below_size (upH HB.out))); (case aL => have := LMc8.out; omega); intro g9 w12 ho hb hg hat; rw [← Ny107.out] at ho; replace HB := yaa (hb); have a7 := yaa (ho); clear d8; clear ho hb hg hat; obtain ⟨f3, f4, f5⟩ := Kd.R_slice a7.out; subst f5))
     (try simp only [Act.put, List.setIfInBounds_toArray, List.set_cons_zero, List.set_cons_succ])
     go_cut [5] (fun v5 wc => ∃ (kq : Nat) (d3 : List Int), Aside0 (spec_ShaMac.j1 kq l1 d3 = some r) ∧ Aside0 (kq ≤ kj2) ∧ Aside0 (Kd.R (Kd.int .u8) 5 wc w.heap.size (fun _ => True) v5 d3) ∧ Aside0 (Below w.heap.size w wc))
     case first =>
      have H := HC9.out; clear HC9
      by_cases c14 : (y107.length : Int) > 64
      ·
       rw [if_pos c14] at H
       have a8 : decide (64 < (y107.length : Int)) = true := decide_eq_true c14; have c2 : decide (64 < y107.length) = true := decide_eq_true (by omega); clear c14
       (first | rw [a8] | (simp only [i64_w, i32_w]; rw [a8]) | skip)
       obtain ⟨d2, A15, H⟩ := bindA H; (try dsimp only at H); have H' := yaa H; clear H
       go_wp2_with (first | ((with_reducible refine gc_ 60 rfl ?_); refine gl_ (some 25) rfl Tryd.func60 #[.slice f3 y107.length f4] ?_; (with_reducible refine (spec_l1Sum.calls kj2 _ _ y107 d2 _ ?side1 ?side2 A15.out).mono ?_); (case side1 => repeat (first | exact (Kd.R_reads' a7.out).2.2 | (with_reducible refine Kd.C_alloc ?_ _) | (with_reducible refine Kd.C_drewN ?_ _) | (with_reducible refine Kd.C_drew ?_))); (case side2 => exact (Kd.R_reads' a7.out).2.1); rintro e w16 ⟨h0, rfl, ho0, hb⟩; refine ⟨_, rfl, ?_⟩; have e5 := yaa (Kd.R_lower (Kd.R_new' ho0 (Kd.R_lt (upR a7.out))) (below_size (upH HB.out))); replace a7 := yaa (Kd.R_elder' (upR a7.out) (Kd.R_base ho0) hb); replace HB := yaa (below_step (upH HB.out) hb); (try clear hb ho0)))
       go_meet
       case rel => exact ⟨_, (d2), H', ⟨by have := HJ2.out; first | omega | exact Nat.le_refl _⟩, ⟨by (with_reducible repeat (first | apply Kd.R_alloc | apply Kd.R_drewN | apply Kd.R_drew)); exact Kd.R_mono e5.out (fun _ hk => trivial)⟩, ⟨upH HB.out⟩⟩
      ·
       rw [if_neg c14] at H
       have a8 : decide (64 < (y107.length : Int)) = false := decide_eq_false c14; have c2 : decide (64 < y107.length) = false := decide_eq_false (by omega); clear c14
       (first | rw [a8] | (simp only [i64_w, i32_w]; rw [a8]) | skip)
       have H' := yaa H; clear H
       go_wp2
       go_meet
       case rel => exact ⟨_, (y107), H', ⟨by have := HJ2.out; first | omega | exact Nat.le_refl _⟩, ⟨by first | exact a7.out | exact upR a7.out⟩, ⟨upH HB.out⟩⟩
     case rest =>
      clear HC9; (try clear c1); (try clear p2); (try clear c3); (try clear c4); (try clear b3); (try clear d0); (try clear c5); (try clear c6); (try clear c8); (try clear c14); (try clear a8); (try clear c2); (try clear p2); obtain ⟨kq, d3, HA, HJ8, a3, HB⟩ := hcut
      cases kq with
      | zero => exact absurd HA.out (by simp [spec_ShaMac.j1])
      | succ kj8 =>
       have H := HA.out; clear HA
       simp only [spec_ShaMac.j1] at H
       have H' := yaa H; clear H
       go_wp2
       (try simp only [Act.put, List.setIfInBounds_toArray, List.set_cons_zero, List.set_cons_succ])
       go_loopg [5] kj8 (fun kq v5 w' => ∃ (a2 : List Int), Aside0 (spec_ShaMac.l0 kq l1 a2 = some r) ∧ Aside0 (kq ≤ kj8) ∧ Aside0 (Kd.R (Kd.int .u8) 5 w' w.heap.size (fun _ => True) v5 a2) ∧ Aside0 (Below w.heap.size w w'))
       case atStart => exact ⟨(d3), H', ⟨Nat.le_refl _⟩, ⟨by first | exact a3.out | exact upR a3.out⟩, ⟨upH HB.out⟩⟩
       case round =>
        clear H'; (try clear c1); (try clear p2); (try clear c3); (try clear c4); (try clear b3); (try clear d0); (try clear c5); (try clear c6); (try clear c8); (try clear c14); (try clear a8); (try clear c2); (try clear p2); obtain ⟨a2, HA, HK3, a3, HB⟩ := hrel
        cases gk with
        | zero => exact absurd HA.out (by simp [spec_ShaMac.l0])
        | succ k3 =>
         have H := HA.out; clear HA
         simp only [spec_ShaMac.l0] at H
         by_cases c17 : (a2.length : Int) < 64
         ·
          rw [if_pos c17] at H
          have d9 : decide ((a2.length : Int) < 64) = true := decide_eq_true c17; have e0 : decide (a2.length < 64) = true := decide_eq_true (by omega); clear c17
          by_cases c18 : a2.length < 140737488355328
          ·
           rw [if_pos c18] at H
           have LMc18 := yaa c18; clear c18; obtain ⟨y113, hy113⟩ : ∃ y_ : List Int, y_ = (a2 ++ [0]) := ⟨_, rfl⟩
           replace H : (spec_ShaMac.l0 k3 l1 y113) = some r := by first | (rw [hy113]; with_reducible exact H) | (have H2_ := (Option.bind_some _ _).symm.trans H; rw [hy113]; with_reducible exact H2_) | (have H2_ := (Option.bind_some _ _).symm.trans H; with_reducible exact H2_) | with_reducible exact H | (rw [hy113]; exact H) | exact H
           have Ny113 := yaa hy113; clear hy113; have H' := yaa H; clear H; obtain ⟨f6, f7, f8⟩ := Kd.R_slice a3.out; subst f8
           go_wp2_with (first | ((with_reducible refine gate_builtin (b := .append) (xs := #[.tmp 29, .tmp 30]) rfl ?_); (try (refine gate_guard (by rfl) ?_; dsimp only)); at_builtin; refine Kd.R_append (Kd.int .u8) (w0 := w) w.heap.size rfl (.tmp 29) (.tmp 30) 22 5 (.int .u8 0) 1 rfl Tryd.underlying22 info5 rfl (by decide) (by omega) (.slice f6 a2.length f7) a2 0 [.int .u8 0] (fun _ => True) (fun _ => False) rfl rfl ?aP (fun _ hk => hk.elim) ?aF ?aO ?aB ?aS ?aL ?_; (case aP => exact rfl); (case aB => exact (upH HB.out)); (case aF => exact (fun _ _ => trivial)); (case aO => exact (upR a3.out)); (case aS => exact (below_size (upH HB.out))); (case aL => have := LMc18.out; omega); intro h1 w20 ho hb hg hat; rw [← Ny113.out] at ho; replace HB := yaa (hb); have e1 := yaa (ho); clear a3; clear ho hb hg hat))
           go_roundg k3
           case measure => have := HJ2.out; have := HJ8.out; have := HK3.out; omega
           case rel => exact ⟨(y113), H', ⟨by have := HJ2.out; have := HJ8.out; have := HK3.out; omega⟩, ⟨by first | exact e1.out | exact upR e1.out⟩, ⟨upH HB.out⟩⟩
          ·
           rw [if_neg c18] at H
           exact absurd H (by simp)
         ·
          rw [if_neg c17] at H
          have d9 : decide ((a2.length : Int) < 64) = false := decide_eq_false c17; have e0 : decide (a2.length < 64) = false := decide_eq_false (by omega); clear c17; obtain ⟨y116, hy116⟩ : ∃ y_ : List Int, y_ = (([] : List Int)) := ⟨_, rfl⟩
          replace H : (spec_ShaMac.l1 k3 l1 a2 y116 (([] : List Int)) 0) = some r := by first | (rw [hy116]; with_reducible exact H) | (have H2_ := (Option.bind_some _ _).symm.trans H; rw [hy116]; with_reducible exact H2_) | (have H2_ := (Option.bind_some _ _).symm.trans H; with_reducible exact H2_) | with_reducible exact H | (rw [hy116]; exact H) | exact H
          have Ny116 := yaa hy116; clear hy116; obtain ⟨y119, hy119⟩ : ∃ y_ : List Int, y_ = (([] : List Int)) := ⟨_, rfl⟩
          replace H : (spec_ShaMac.l1 k3 l1 a2 y116 y119 0) = some r := by first | (rw [hy119]; with_reducible exact H) | (have H2_ := (Option.bind_some _ _).symm.trans H; rw [hy119]; with_reducible exact H2_) | (have H2_ := (Option.bind_some _ _).symm.trans H; with_reducible exact H2_) | with_reducible exact H | (rw [hy119]; exact H) | exact H
          have Ny119 := yaa hy119; clear hy119; have H' := yaa H; clear H; obtain ⟨b5, b0, f9⟩ := Kd.R_slice a3.out; subst f9
          go_wp2_with (first | ((with_reducible refine gd_ 32 rfl ?_); (try (refine gate_guard (by rfl) ?_; dsimp only)); refine Kd.R_lit (Kd.int .u8) _ 5 ?hg (N := 32) ?hd (xs := ([] : List Int)) (inner := []) (ok := fun _ => True) (okp := fun _ => True) ?hr ?hp (fun _ hk => hk) trivial (Below.refl _ _) (Nat.le_refl _) (by simp) ?_; (case hd => rfl); (case hg => rfl); (case hr => first | (go_simp; done) | (go_simp; rfl)); (case hp => exact (Reps.none _ _)); intro h2 w22 c9 hb hg_ hnew_; clear hg_ hnew_; (first | rw [← Ny116.out] at c9 | (simp only [Int.reduceToNat] at c9; rw [← Ny116.out] at c9)); have c7 := yaa (Kd.R_lower (Kd.R_new' c9 (Kd.R_lt (upR a3.out))) (below_size (upH HB.out))); replace a3 := yaa (Kd.R_elder' (upR a3.out) (Kd.R_base c9) hb); replace HB := yaa (below_step (upH HB.out) hb); clear hb c9) | ((with_reducible refine gd_ 33 rfl ?_); (try (refine gate_guard (by rfl) ?_; dsimp only)); refine Kd.R_lit (Kd.int .u8) _ 5 ?hg (N := 33) ?hd (xs := ([] : List Int)) (inner := []) (ok := fun _ => True) (okp := fun _ => True) ?hr ?hp (fun _ hk => hk) trivial (Below.refl _ _) (Nat.le_refl _) (by simp) ?_; (case hd => rfl); (case hg => rfl); (case hr => first | (go_simp; done) | (go_simp; rfl)); (case hp => exact (Reps.none _ _)); intro h3 w24 b7 hb hg_ hnew_; clear hg_ hnew_; (first | rw [← Ny119.out] at b7 | (simp only [Int.reduceToNat] at b7; rw [← Ny119.out] at b7)); have e6 := yaa (Kd.R_lower (Kd.R_new' (Kd.R_new' b7 (Kd.R_lt (upR a3.out))) (Kd.R_lt (upR c7.out))) (below_size (upH HB.out))); replace a3 := yaa (Kd.R_elder' (upR a3.out) (Kd.R_base b7) hb); replace c7 := yaa (Kd.R_elder' (upR c7.out) (Kd.R_base b7) hb); replace HB := yaa (below_step (upH HB.out) hb); clear hb b7))
          (try simp only [Act.put, List.setIfInBounds_toArray, List.set_cons_zero, List.set_cons_succ])
          go_loopg [6, 7, 8] k3 (fun kq v6 v7 v8 w' => ∃ (b4 : List Int) (b1 : List Int) (a4 : Int), v8 = .int .i64 a4 ∧ Aside0 (spec_ShaMac.l1 kq l1 a2 b4 b1 a4 = some r) ∧ Aside0 (kq ≤ k3) ∧ Aside0 (Kd.R (Kd.int .u8) 5 w' w.heap.size (fun k_ => some k_ ≠ (v6 : Value).ownBlock ∧ some k_ ≠ (v7 : Value).ownBlock) (.slice b5 a2.length b0) a2) ∧ Aside0 (Kd.R (Kd.int .u8) 5 w' w.heap.size (fun k_ => some k_ ≠ ((.slice b5 a2.length b0) : Value).ownBlock ∧ some k_ ≠ (v7 : Value).ownBlock) v6 b4) ∧ Aside0 (Kd.R (Kd.int .u8) 5 w' w.heap.size (fun k_ => some k_ ≠ ((.slice b5 a2.length b0) : Value).ownBlock ∧ some k_ ≠ (v6 : Value).ownBlock) v7 b1) ∧ Aside0 (Below w.heap.size w w'))
          case atStart => exact ⟨(y116), (y119), (0), (by first | rfl | (simp; done) | (simp [*]; done)), H', ⟨Nat.le_refl _⟩, ⟨by (with_reducible repeat (first | apply Kd.R_alloc | apply Kd.R_drewN | apply Kd.R_drew)); exact Kd.R_mono a3.out (fun _ hk => ⟨hk.1.2, hk.2⟩)⟩, ⟨by (with_reducible repeat (first | apply Kd.R_alloc | apply Kd.R_drewN | apply Kd.R_drew)); exact Kd.R_mono c7.out (fun _ hk => ⟨hk.1.2, hk.2⟩)⟩, ⟨by (with_reducible repeat (first | apply Kd.R_alloc | apply Kd.R_drewN | apply Kd.R_drew)); exact Kd.R_mono e6.out (fun _ hk => ⟨hk.1.2, hk.2⟩)⟩, ⟨upH HB.out⟩⟩
          case round =>
           clear H'; (try clear c1); (try clear p2); (try clear c3); (try clear c4); (try clear b3); (try clear d0); (try clear c5); (try clear c6); (try clear c8); (try clear c14); (try clear a8); (try clear c2); (try clear c17); (try clear d9); (try clear e0); (try clear c18); (try clear p2); obtain ⟨b4, b1, a4, rfl, HA, HK4, a3, d4, a6, HB⟩ := hrel
           cases gk with
           | zero => exact absurd HA.out (by simp [spec_ShaMac.l1])
           | succ k4 =>
            have H := HA.out; clear HA
            simp only [spec_ShaMac.l1] at H
            by_cases c26 : a4 < 64
            ·
             rw [if_pos c26] at H
             have e7 : decide (a4 < 64) = true := decide_eq_true c26; clear c26
             by_cases c27 : 0 ≤ a4
             ·
              rw [if_pos c27] at H
              replace c27 := decide_eq_true c27
              by_cases c28 : a4 < (a2.length : Int)
              ·
               rw [if_pos c28] at H
               replace c28 := decide_eq_true c28
               by_cases c29 : b4.length < 140737488355328
               ·
                rw [if_pos c29] at H
                have LMc29 := yaa c29; clear c29; obtain ⟨y123, hy123⟩ : ∃ y_ : List Int, y_ = (b4 ++ [Go.bits .xor .u8 (rd a2 a4) 54]) := ⟨_, rfl⟩
                replace H : (if b1.length < 140737488355328 then (spec_ShaMac.l1 k4 l1 a2 y123 (b1 ++ [Go.bits .xor .u8 (rd a2 a4) 92]) (wrap64 (a4 + 1))) else (none)) = some r := by first | (rw [hy123]; with_reducible exact H) | (have H2_ := (Option.bind_some _ _).symm.trans H; rw [hy123]; with_reducible exact H2_) | (have H2_ := (Option.bind_some _ _).symm.trans H; with_reducible exact H2_) | with_reducible exact H | (rw [hy123]; exact H) | exact H
                have Ny123 := yaa hy123; clear hy123
                by_cases c30 : b1.length < 140737488355328
                ·
                 rw [if_pos c30] at H
                 have LMc30 := yaa c30; clear c30; obtain ⟨y127, hy127⟩ : ∃ y_ : List Int, y_ = (b1 ++ [Go.bits .xor .u8 (rd a2 a4) 92]) := ⟨_, rfl⟩
                 replace H : (spec_ShaMac.l1 k4 l1 a2 y123 y127 (wrap64 (a4 + 1))) = some r := by first | (rw [hy127]; with_reducible exact H) | (have H2_ := (Option.bind_some _ _).symm.trans H; rw [hy127]; with_reducible exact H2_) | (have H2_ := (Option.bind_some _ _).symm.trans H; with_reducible exact H2_) | with_reducible exact H | (rw [hy127]; exact H) | exact H
                 have Ny127 := yaa hy127; clear hy127; have H' := yaa H; clear H; have p122 : 0 ≤ (a4 : Int) := of_decide_eq_true (by assumption); have q122 : a4 < (a2.length : Int) := of_decide_eq_true (by assumption); obtain ⟨ad122, g0, f0⟩ := Kd.at_int (Kd.R_reads' a3.out).2.2 a4 p122 q122
                 cases g0
                 replace p122 := eq_true p122; replace q122 := eq_true q122
                 go_wp2_with (first | ((with_reducible refine gate_builtin (b := .append) (xs := #[.tmp 38, .tmp 44]) rfl ?_); (try (refine gate_guard (by rfl) ?_; dsimp only)); at_builtin; refine Kd.R_append (Kd.int .u8) (w0 := w) w.heap.size rfl (.tmp 38) (.tmp 44) 22 5 (.int .u8 0) 1 rfl Tryd.underlying22 info5 rfl (by decide) (by omega) u6 b4 (Go.bits .xor .u8 (rd a2 a4) 54) [.int .u8 (Go.bits .xor .u8 (rd a2 a4) 54)] (fun k_ => some k_ ≠ (.slice (some ad122) a2.length b0 : Value).ownBlock ∧ some k_ ≠ (u7 : Value).ownBlock) (fun _ => False) rfl rfl ?aP (fun _ hk => hk.elim) ?aF ?aO ?aB ?aS ?aL ?_; (case aP => exact rfl); (case aB => exact (upH HB.out)); (case aF => exact (fun k_ hk => ⟨Kd.fresh' (Kd.R_lt (upR a3.out)) k_ hk, Kd.fresh' (Kd.R_lt (upR a6.out)) k_ hk⟩)); (case aO => exact (upR d4.out)); (case aS => exact (below_size (upH HB.out))); (case aL => have := LMc29.out; omega); intro e8 w31 ho hb hg hat; rw [← Ny123.out] at ho; replace a3 := yaa (Kd.R_after (ok := (fun k_ => some k_ ≠ (u7 : Value).ownBlock)) (by (with_reducible repeat (first | apply Kd.R_alloc | apply Kd.R_drewN | apply Kd.R_drew)); exact Kd.R_mono a3.out (fun _ hk => ⟨hk.2, hk.1⟩)) hg hat); replace a6 := yaa (Kd.R_after (ok := (fun k_ => some k_ ≠ (.slice (some ad122) a2.length b0 : Value).ownBlock)) (upR a6.out) hg hat); replace HB := yaa (hb); have b6 := yaa (ho); clear d4; clear ho hb hg hat; have p126 : 0 ≤ (a4 : Int) := of_decide_eq_true (by assumption); have q126 : a4 < (a2.length : Int) := of_decide_eq_true (by assumption); obtain ⟨ad126, g1, f1⟩ := Kd.at_int (Kd.R_reads' a3.out).2.2 a4 p126 q126; obtain rfl : ad122 = ad126 := (by injection g1); replace p126 := eq_true p126; replace q126 := eq_true q126) | ((with_reducible refine gate_builtin (b := .append) (xs := #[.tmp 46, .tmp 52]) rfl ?_); (try (refine gate_guard (by rfl) ?_; dsimp only)); at_builtin; refine Kd.R_append (Kd.int .u8) (w0 := w) w.heap.size rfl (.tmp 46) (.tmp 52) 22 5 (.int .u8 0) 1 rfl Tryd.underlying22 info5 rfl (by decide) (by omega) u7 b1 (Go.bits .xor .u8 (rd a2 a4) 92) [.int .u8 (Go.bits .xor .u8 (rd a2 a4) 92)] (fun k_ => some k_ ≠ (.slice (some ad122) a2.length b0 : Value).ownBlock ∧ some k_ ≠ (e8 : Value).ownBlock) (fun _ => False) rfl rfl ?aP (fun _ hk => hk.elim) ?aF ?aO ?aB ?aS ?aL ?_; (case aP => exact rfl); (case aB => exact (upH HB.out)); (case aF => exact (fun k_ hk => ⟨Kd.fresh' (Kd.R_lt (upR a3.out)) k_ hk, Kd.fresh' (Kd.R_lt (upR b6.out)) k_ hk⟩)); (case aO => exact (upR a6.out)); (case aS => exact (below_size (upH HB.out))); (case aL => have := LMc30.out; omega); intro h4 w32 ho hb hg hat; rw [← Ny127.out] at ho; replace a3 := yaa (Kd.R_after (ok := (fun k_ => some k_ ≠ (e8 : Value).ownBlock)) (by (with_reducible repeat (first | apply Kd.R_alloc | apply Kd.R_drewN | apply Kd.R_drew)); exact Kd.R_mono a3.out (fun _ hk => ⟨hk.2, hk.1⟩)) hg hat); replace b6 := yaa (Kd.R_after (ok := (fun k_ => some k_ ≠ (.slice (some ad122) a2.length b0 : Value).ownBlock)) (upR b6.out) hg hat); replace HB := yaa (hb); have e2 := yaa (ho); clear a6; clear ho hb hg hat))
                 go_roundg k4
                 case measure => have := HJ2.out; have := HJ8.out; have := HK3.out; have := HK4.out; omega
                 case rel => exact ⟨(y123), (y127), (wrap64 (a4 + 1)), (by first | rfl | (simp; done) | (simp [*]; done)), H', ⟨by have := HJ2.out; have := HJ8.out; have := HK3.out; have := HK4.out; omega⟩, ⟨by first | exact a3.out | exact upR a3.out⟩, ⟨by first | exact b6.out | exact upR b6.out⟩, ⟨by first | exact e2.out | exact upR e2.out⟩, ⟨upH HB.out⟩⟩
                ·
                 rw [if_neg c30] at H
                 exact absurd H (by simp)
               ·
                rw [if_neg c29] at H
                exact absurd H (by simp)
              ·
               rw [if_neg c28] at H
               exact absurd H (by simp)
             ·
              rw [if_neg c27] at H
              exact absurd H (by simp)
            ·
             rw [if_neg c26] at H
             have e7 : decide (a4 < 64) = false := decide_eq_false c26; clear c26
             by_cases c33 : b4.length + l1.length < 140737488355328
             ·
              rw [if_pos c33] at H
              have LMc33 := yaa c33; clear c33; obtain ⟨y130, hy130⟩ : ∃ y_ : List Int, y_ = (b4 ++ l1) := ⟨_, rfl⟩
              conv at H => enter [1, 1, 2]; rw [← hy130]
              have Ny130 := yaa hy130; clear hy130; obtain ⟨b8, A34, H⟩ := bindA H; (try dsimp only at H)
              by_cases c35 : b1.length + b8.length < 140737488355328
              ·
               rw [if_pos c35] at H
               have LMc35 := yaa c35; clear c35; obtain ⟨y136, hy136⟩ : ∃ y_ : List Int, y_ = (b1 ++ b8) := ⟨_, rfl⟩
               conv at H => enter [1, 1, 2]; rw [← hy136]
               have Ny136 := yaa hy136; clear hy136; obtain ⟨g2, A36, H⟩ := bindA H; (try dsimp only at H); obtain rfl := Option.some.inj H
               go_wp2_with (first | ((with_reducible refine gate_builtin (b := .append) (xs := #[.tmp 55, .tmp 56]) rfl ?_); (try (refine gate_guard (by rfl) ?_; dsimp only)); at_builtin; refine Kd.R_append_rows (Kd.int .u8) (w0 := w) w.heap.size rfl (.tmp 55) (.tmp 56) 22 5 (.int .u8 0) 1 rfl Tryd.underlying22 info5 rfl (by decide) (by omega) u6 b4 l1 _ _ _ (fun k_ => some k_ ≠ (.slice b5 a2.length b0 : Value).ownBlock ∧ some k_ ≠ (u7 : Value).ownBlock) (fun _ => False) rfl rfl ?aO ?aR (fun _ _ h => h) (fun _ h => h.elim) ?aF ?aB ?aS ?aL ?_; (case aR => repeat (first | exact (Kd.C_below HR1.out HB.out) | (with_reducible refine Kd.C_alloc ?_ _) | (with_reducible refine Kd.C_drewN ?_ _) | (with_reducible refine Kd.C_drew ?_))); (case aB => exact (upH HB.out)); (case aF => exact (fun k_ hk => ⟨Kd.fresh' (Kd.R_lt (upR a3.out)) k_ hk, Kd.fresh' (Kd.R_lt (upR a6.out)) k_ hk⟩)); (case aO => exact (upR d4.out)); (case aS => exact (below_size (upH HB.out))); (case aL => have := LMc33.out; omega); intro h5 w37 ho hb hg hat; rw [← Ny130.out] at ho; replace a3 := yaa (Kd.R_after (ok := (fun k_ => some k_ ≠ (u7 : Value).ownBlock)) (by (with_reducible repeat (first | apply Kd.R_alloc | apply Kd.R_drewN | apply Kd.R_drew)); exact Kd.R_mono a3.out (fun _ hk => ⟨hk.2, hk.1⟩)) hg hat); replace a6 := yaa (Kd.R_after (ok := (fun k_ => some k_ ≠ (.slice b5 a2.length b0 : Value).ownBlock)) (upR a6.out) hg hat); replace HB := yaa (hb); have a5 := yaa (ho); clear d4; clear ho hb hg hat; obtain ⟨d5, d6, g3⟩ := Kd.R_slice a5.out; subst g3) | ((with_reducible refine gc_ 60 rfl ?_); refine gl_ (some 58) rfl Tryd.func60 #[.slice d5 y130.length d6] ?_; (with_reducible refine (spec_l1Sum.calls k4 _ _ y130 b8 _ ?side1 ?side2 A34.out).mono ?_); (case side1 => repeat (first | exact (Kd.R_reads' a5.out).2.2 | (with_reducible refine Kd.C_alloc ?_ _) | (with_reducible refine Kd.C_drewN ?_ _) | (with_reducible refine Kd.C_drew ?_))); (case side2 => exact (Kd.R_reads' a5.out).2.1); rintro e w39 ⟨h6, rfl, ho0, hb⟩; refine ⟨_, rfl, ?_⟩; have a9 := yaa (Kd.R_lower (Kd.R_new' (Kd.R_new' (Kd.R_new' ho0 (Kd.R_lt (upR a3.out))) (Kd.R_lt (upR a6.out))) (Kd.R_lt (upR a5.out))) (below_size (upH HB.out))); replace a3 := yaa (Kd.R_elder' (upR a3.out) (Kd.R_base ho0) hb); replace a6 := yaa (Kd.R_elder' (upR a6.out) (Kd.R_base ho0) hb); replace a5 := yaa (Kd.R_elder' (upR a5.out) (Kd.R_base ho0) hb); replace HB := yaa (below_step (upH HB.out) hb); (try clear hb ho0); obtain ⟨e3, e4, g4⟩ := Kd.R_slice a9.out; subst g4) | ((with_reducible refine gate_builtin (b := .append) (xs := #[.tmp 54, .tmp 58]) rfl ?_); (try (refine gate_guard (by rfl) ?_; dsimp only)); at_builtin; refine Kd.R_append_rows (Kd.int .u8) (w0 := w) w.heap.size rfl (.tmp 54) (.tmp 58) 22 5 (.int .u8 0) 1 rfl Tryd.underlying22 info5 rfl (by decide) (by omega) u7 b1 b8 _ _ _ (fun k_ => some k_ ≠ (.slice b5 a2.length b0 : Value).ownBlock ∧ some k_ ≠ (.slice d5 y130.length d6 : Value).ownBlock ∧ some k_ ≠ (.slice e3 b8.length e4 : Value).ownBlock) (fun _ => False) rfl rfl ?aO ?aR (fun _ _ h => h) (fun _ h => h.elim) ?aF ?aB ?aS ?aL ?_; (case aR => repeat (first | exact (Kd.R_reads' a9.out).2.2 | (with_reducible refine Kd.C_alloc ?_ _) | (with_reducible refine Kd.C_drewN ?_ _) | (with_reducible refine Kd.C_drew ?_))); (case aB => exact (upH HB.out)); (case aF => exact (fun k_ hk => ⟨Kd.fresh' (Kd.R_lt (upR a3.out)) k_ hk, Kd.fresh' (Kd.R_lt (upR a5.out)) k_ hk, Kd.fresh' (Kd.R_lt (upR a9.out)) k_ hk⟩)); (case aO => exact (by (with_reducible repeat (first | apply Kd.R_alloc | apply Kd.R_drewN | apply Kd.R_drew)); exact Kd.R_mono a6.out (fun _ hk => ⟨hk.1.1, ⟨hk.1.2, hk.2⟩⟩))); (case aS => exact (below_size (upH HB.out))); (case aL => have := LMc35.out; omega); intro h7 w40 ho hb hg hat; rw [← Ny136.out] at ho; replace a3 := yaa (Kd.R_after (ok := (fun k_ => some k_ ≠ (.slice d5 y130.length d6 : Value).ownBlock ∧ some k_ ≠ (.slice e3 b8.length e4 : Value).ownBlock)) (by (with_reducible repeat (first | apply Kd.R_alloc | apply Kd.R_drewN | apply Kd.R_drew)); exact Kd.R_mono a3.out (fun _ hk => ⟨⟨hk.1.2, hk.2⟩, hk.1.1⟩)) hg hat); replace a5 := yaa (Kd.R_after (ok := (fun k_ => some k_ ≠ (.slice b5 a2.length b0 : Value).ownBlock ∧ some k_ ≠ (.slice e3 b8.length e4 : Value).ownBlock)) (by (with_reducible repeat (first | apply Kd.R_alloc | apply Kd.R_drewN | apply Kd.R_drew)); exact Kd.R_mono a5.out (fun _ hk => ⟨⟨hk.1.1, hk.2⟩, hk.1.2⟩)) hg hat); replace a9 := yaa (Kd.R_after (ok := (fun k_ => some k_ ≠ (.slice b5 a2.length b0 : Value).ownBlock ∧ some k_ ≠ (.slice d5 y130.length d6 : Value).ownBlock)) (by (with_reducible repeat (first | apply Kd.R_alloc | apply Kd.R_drewN | apply Kd.R_drew)); exact Kd.R_mono a9.out (fun _ hk => ⟨⟨hk.1.1.2, hk.2⟩, hk.1.2⟩)) hg hat); replace HB := yaa (hb); have b2 := yaa (ho); clear a6; clear ho hb hg hat; obtain ⟨g5, g6, g7⟩ := Kd.R_slice b2.out; subst g7) | ((with_reducible refine gc_ 60 rfl ?_); refine gl_ (some 60) rfl Tryd.func60 #[.slice g5 y136.length g6] ?_; (with_reducible refine (spec_l1Sum.calls k4 _ _ y136 g2 _ ?side1 ?side2 A36.out).mono ?_); (case side1 => repeat (first | exact (Kd.R_reads' b2.out).2.2 | (with_reducible refine Kd.C_alloc ?_ _) | (with_reducible refine Kd.C_drewN ?_ _) | (with_reducible refine Kd.C_drew ?_))); (case side2 => exact (Kd.R_reads' b2.out).2.1); rintro e w43 ⟨h8, rfl, ho0, hb⟩; refine ⟨_, rfl, ?_⟩; have e9 := yaa (Kd.R_lower (Kd.R_new' (Kd.R_new' (Kd.R_new' (Kd.R_new' ho0 (Kd.R_lt (upR a3.out))) (Kd.R_lt (upR a5.out))) (Kd.R_lt (upR a9.out))) (Kd.R_lt (upR b2.out))) (below_size (upH HB.out))); replace a3 := yaa (Kd.R_elder' (upR a3.out) (Kd.R_base ho0) hb); replace a5 := yaa (Kd.R_elder' (upR a5.out) (Kd.R_base ho0) hb); replace a9 := yaa (Kd.R_elder' (upR a9.out) (Kd.R_base ho0) hb); replace b2 := yaa (Kd.R_elder' (upR b2.out) (Kd.R_base ho0) hb); replace HB := yaa (below_step (upH HB.out) hb); (try clear hb ho0)))
               go_ret
               exact ⟨_, by first | rfl | (simp [*, errW_none, errW_some] <;> rfl), by (with_reducible repeat (first | apply Kd.R_alloc | apply Kd.R_drewN | apply Kd.R_drew)); exact Kd.R_mono e9.out (fun _ hk => trivial), upH HB.out⟩
              ·
               rw [if_neg c35] at H
               exact absurd H (by simp)
             ·
              rw [if_neg c33] at H
              exact absurd H (by simp)
    ·
     rw [if_neg c8] at H
     exact absurd H (by simp)
end
section
def impl_within.f (a0 : Int) (a1 : Int) (a2 : Int) : Option (Bool) := if a0 ≥ a1 then (some (decide (a0 ≤ a2))) else (some false)
set_option maxHeartbeats 8000000 in
set_option maxRecDepth 100000 in
theorem impl_within.calls (a0 : Int) (a1 : Int) (a2 : Int) (r : Bool) (w : World) (h : impl_within.f a0 a1 a2 = some r) :
    Calls Tryd.prog 52 #[.int .i64 a0, .int .i64 a1, .int .i64 a2] w fun e w' => e = .returned (.bool r) ∧ Drawn0 w w' := by
  have H : (if a0 ≥ a1 then (some (decide (a0 ≤ a2))) else (some false)) = some r := h; clear h
  by_cases c4 : a0 ≥ a1
  · rw [if_pos c4] at H
    have c4b0 : decide (a1 ≤ a0) = true := decide_eq_true c4; clear c4; obtain rfl := Option.some.inj H
    go_enter Tryd.func52, Tryd.ntmps52
    go_wp2
    go_ret
    exact ⟨by first | rfl | (simp; done) | (simp [*]; done), by repeat (first | exact Drawn0.refl _ | apply Drawn0.step)⟩
  · rw [if_neg c4] at H
    have c4b0 : decide (a1 ≤ a0) = false := decide_eq_false c4; clear c4; obtain rfl := Option.some.inj H
    go_enter Tryd.func52, Tryd.ntmps52
    go_wp2
    go_ret
    exact ⟨by first | rfl | (simp; done) | (simp [*]; done), by repeat (first | exact Drawn0.refl _ | apply Drawn0.step)⟩
end
section
theorem eqA59 (d : Nat) (w : World) (x0 y0 : Int) (x1 y1 : Int) (x2 y2 : Int) (x3 y3 : Int) (x4 y4 : Int) :
    (Op.equalIn (d + 2) 59 (.agg #[.int .i64 x0, .int .i64 x1, .int .i64 x2, .int .i64 x3, .int .i64 x4]) (.agg #[.int .i64 y0, .int .i64 y1, .int .i64 y2, .int .i64 y3, .int .i64 y4])).run Tryd.prog w = .ok (x0 == y0 && (x1 == y1 && (x2 == y2 && (x3 == y3 && (x4 == y4))))) w := by
  refine eqA_of Tryd.underlying59 (by kernel_rfl) ?_
  refine eqf_cons (by rfl) (by go_simp; rfl) (by go_simp; rfl) (by go_simp) ?_
  refine eqf_cons (by rfl) (by go_simp; rfl) (by go_simp; rfl) (by go_simp) ?_
  refine eqf_cons (by rfl) (by go_simp; rfl) (by go_simp; rfl) (by go_simp) ?_
  refine eqf_cons (by rfl) (by go_simp; rfl) (by go_simp; rfl) (by go_simp) ?_
  exact eqf_last (by rfl) (by go_simp; rfl) (by go_simp; rfl) (by go_simp)
end
section
def impl_partOk.f (a0 : Int) : Option (Bool) := if a0 ≥ 0 then (some (decide (a0 ≤ 255))) else (some false)
set_option maxHeartbeats 8000000 in
set_option maxRecDepth 100000 in
theorem impl_partOk.calls (a0 : Int) (r : Bool) (w : World) (h : impl_partOk.f a0 = some r) :
    Calls Tryd.prog 49 #[.int .i64 a0] w fun e w' => e = .returned (.bool r) ∧ Drawn0 w w' := by
  have H : (if a0 ≥ 0 then (some (decide (a0 ≤ 255))) else (some false)) = some r := h; clear h
  by_cases c2 : a0 ≥ 0
  · rw [if_pos c2] at H
    have c2b0 : decide (0 ≤ a0) = true := decide_eq_true c2; clear c2; obtain rfl := Option.some.inj H
    go_enter Tryd.func49, Tryd.ntmps49
    go_wp2
    go_ret
    exact ⟨by first | rfl | (simp; done) | (simp [*]; done), by repeat (first | exact Drawn0.refl _ | apply Drawn0.step)⟩
  · rw [if_neg c2] at H
    have c2b0 : decide (0 ≤ a0) = false := decide_eq_false c2; clear c2; obtain rfl := Option.some.inj H
    go_enter Tryd.func49, Tryd.ntmps49
    go_wp2
    go_ret
    exact ⟨by first | rfl | (simp; done) | (simp [*]; done), by repeat (first | exact Drawn0.refl _ | apply Drawn0.step)⟩
end
section
def impl_sizeOk.f (a0 : Int) : Option (Bool) := if a0 ≥ 1 then (some (decide (a0 ≤ 6))) else (some false)
set_option maxHeartbeats 8000000 in
set_option maxRecDepth 100000 in
theorem impl_sizeOk.calls (a0 : Int) (r : Bool) (w : World) (h : impl_sizeOk.f a0 = some r) :
    Calls Tryd.prog 64 #[.int .i64 a0] w fun e w' => e = .returned (.bool r) ∧ Drawn0 w w' := by
  have H : (if a0 ≥ 1 then (some (decide (a0 ≤ 6))) else (some false)) = some r := h; clear h
  by_cases c2 : a0 ≥ 1
  · rw [if_pos c2] at H
    have c2b0 : decide (1 ≤ a0) = true := decide_eq_true c2; clear c2; obtain rfl := Option.some.inj H
    go_enter Tryd.func64, Tryd.ntmps64
    go_wp2
    go_ret
    exact ⟨by first | rfl | (simp; done) | (simp [*]; done), by repeat (first | exact Drawn0.refl _ | apply Drawn0.step)⟩
  · rw [if_neg c2] at H
    have c2b0 : decide (1 ≤ a0) = false := decide_eq_false c2; clear c2; obtain rfl := Option.some.inj H
    go_enter Tryd.func64, Tryd.ntmps64
    go_wp2
    go_ret
    exact ⟨by first | rfl | (simp; done) | (simp [*]; done), by repeat (first | exact Drawn0.refl _ | apply Drawn0.step)⟩
end
section
attribute [local go_sem high] eqA59
open Go.Proofs.YtmbkhindhndccaaDoorW.PrintWords renaming pw_below_drewN → yaa, below_alloc → yab, below_drew1 → yac, below_set → yae
open Go.Proofs.YtmbkhindhndccaaDoorW.PrintWords.Aside0 renaming mk → yad

def impl_OpOk.j0 : Nat → Int → Bool → Int → Int → Int → Int → Int → Option (Bool)
 | 0, _, _, _, _, _, _, _ => none
 | k + 1, x4, x25, x102000, x102001, x102002, x102003, x102004 => if x25 = true then (some (x102001 == 0 && (x102002 == 0 && (x102003 == 0 && (x102004 == 0))))) else (if x4 = 7 then ((impl_sizeOk.f x102001).bind fun t106 => (if t106 = true then ((impl_sizeOk.f x102002).bind fun t107 => (if t107 = true then (if x102003 = 0 then (some (x102004 == 0)) else (some false)) else (some false))) else (some false))) else (if x4 = 8 then ((impl_partOk.f x102001).bind fun t108 => (if t108 = true then ((impl_partOk.f x102002).bind fun t109 => (if t109 = true then ((impl_partOk.f x102003).bind fun t110 => (if t110 = true then (some (x102004 == 0)) else (some false))) else (some false))) else (some false))) else (some false)))
def impl_OpOk.f (k : Nat) (a0_0 : Int) (a0_1 : Int) (a0_2 : Int) (a0_3 : Int) (a0_4 : Int) : Option (Bool) := if a0_0 = 1 then ((impl_within.f a0_1 0 5).bind fun t102 => (if t102 = true then ((impl_within.f a0_2 0 5).bind fun t103 => (if t103 = true then ((impl_sizeOk.f a0_3).bind fun t104 => (if t104 = true then ((impl_sizeOk.f a0_4).bind fun t105 => (some t105)) else (some false))) else (some false))) else (some false))) else (if a0_0 = 2 then (impl_OpOk.j0 k a0_0 (a0_0 == 2) a0_0 a0_1 a0_2 a0_3 a0_4) else (if a0_0 = 3 then (impl_OpOk.j0 k a0_0 (a0_0 == 3) a0_0 a0_1 a0_2 a0_3 a0_4) else (if a0_0 = 4 then (impl_OpOk.j0 k a0_0 (a0_0 == 4) a0_0 a0_1 a0_2 a0_3 a0_4) else (if a0_0 = 5 then (impl_OpOk.j0 k a0_0 (a0_0 == 5) a0_0 a0_1 a0_2 a0_3 a0_4) else (impl_OpOk.j0 k a0_0 (a0_0 == 6) a0_0 a0_1 a0_2 a0_3 a0_4)))))
set_option maxHeartbeats 8000000 in
set_option maxRecDepth 100000 in
theorem impl_OpOk.calls (k : Nat) (a0_0 : Int) (a0_1 : Int) (a0_2 : Int) (a0_3 : Int) (a0_4 : Int) (r : Bool) (w : World) (h : impl_OpOk.f k a0_0 a0_1 a0_2 a0_3 a0_4 = some r) :
  Calls Tryd.prog 53 #[.agg #[.int .i64 a0_0, .int .i64 a0_1, .int .i64 a0_2, .int .i64 a0_3, .int .i64 a0_4]] w fun e w' => e = .returned (.bool r) ∧ Below w.heap.size w w' := by
 have hu59 := Tryd.underlying59; have HB := yad (Below.refl w.heap.size w); have H : (if a0_0 = 1 then ((impl_within.f a0_1 0 5).bind fun h6 => (if h6 = true then ((impl_within.f a0_2 0 5).bind fun h7 => (if h7 = true then ((impl_sizeOk.f a0_3).bind fun h8 => (if h8 = true then ((impl_sizeOk.f a0_4).bind fun h9 => (some h9)) else (some false))) else (some false))) else (some false))) else (if a0_0 = 2 then (impl_OpOk.j0 k a0_0 (a0_0 == 2) a0_0 a0_1 a0_2 a0_3 a0_4) else (if a0_0 = 3 then (impl_OpOk.j0 k a0_0 (a0_0 == 3) a0_0 a0_1 a0_2 a0_3 a0_4) else (if a0_0 = 4 then (impl_OpOk.j0 k a0_0 (a0_0 == 4) a0_0 a0_1 a0_2 a0_3 a0_4) else (if a0_0 = 5 then (impl_OpOk.j0 k a0_0 (a0_0 == 5) a0_0 a0_1 a0_2 a0_3 a0_4) else (impl_OpOk.j0 k a0_0 (a0_0 == 6) a0_0 a0_1 a0_2 a0_3 a0_4)))))) = some r := h; clear h
 by_cases c2 : a0_0 = 1
 ·
  rw [if_pos c2] at H
  have i0 := beq_iff_eq.mpr c2; have i1 := bne_eq_false_iff_eq.mpr c2; clear c2; obtain ⟨h6, A3, H⟩ := bindA H; (try dsimp only at H)
  by_cases c4 : h6 = true
  ·
   subst c4
   rw [if_pos rfl] at H
   obtain ⟨h7, A5, H⟩ := bindA H; (try dsimp only at H)
   by_cases c6 : h7 = true
   ·
    subst c6
    rw [if_pos rfl] at H
    obtain ⟨h8, A7, H⟩ := bindA H; (try dsimp only at H)
    by_cases c8 : h8 = true
    ·
     subst c8
     rw [if_pos rfl] at H
     obtain ⟨h9, A9, H⟩ := bindA H; (try dsimp only at H); obtain rfl := Option.some.inj H
     go_enter Tryd.func53, Tryd.ntmps53
     go_wp2_with (first | ((with_reducible refine gd_ 1 rfl ?_); refine bx_ 1 rfl #[.int .i64 a0_0, .int .i64 a0_1, .int .i64 a0_2, .int .i64 a0_3, .int .i64 a0_4] 59 ?_; intro a6 hg w10 hbox hb; have a5 := yad (hbox); have a7 := yad ((by rw [hg]; exact (below_size (upH HB.out)) : w.heap.size ≤ a6)); replace HB := yad (below_step (upH HB.out) hb); have b2 := a7; clear hb hbox hg; obtain ⟨b3, b4, b5, b6, b7⟩ := cc5_ a5.out; obtain ⟨b8, b9, c0, c1⟩ := cf4_ a5.out; have c7 := blk_frozen a5.out 4) | ((with_reducible refine gc_ 52 rfl ?_); refine gl_ (some 9) rfl Tryd.func52 #[.int .i64 a0_1, .int .i64 0, .int .i64 5] ?_; (with_reducible refine (impl_within.calls a0_1 0 5 true _ A3.out).mono ?_); rintro e w' ⟨rfl, ⟨nd, rfl⟩⟩; refine ⟨_, rfl, ?_⟩) | (go_at_call 52; (with_reducible refine (impl_within.calls a0_2 0 5 true _ A5.out).mono ?_); rintro e w' ⟨rfl, ⟨nd, rfl⟩⟩) | (go_at_call 64; (with_reducible refine (impl_sizeOk.calls a0_3 true _ A7.out).mono ?_); rintro e w' ⟨rfl, ⟨nd, rfl⟩⟩) | (go_at_call 64; (with_reducible refine (impl_sizeOk.calls a0_4 h9 _ A9.out).mono ?_); rintro e w' ⟨rfl, ⟨nd, rfl⟩⟩))
     go_ret
     exact ⟨by first | rfl | (simp [*, errW_none, errW_some] <;> rfl), by repeat (with_reducible first | exact HB.out | apply yab | apply yaa | apply yac | refine yae ?_ (Aside0.out ‹_›))⟩
    ·
     replace c8 := Bool.eq_false_iff.mpr c8
     subst c8
     rw [if_neg (show ¬ (false = true) by decide)] at H
     obtain rfl := Option.some.inj H
     go_enter Tryd.func53, Tryd.ntmps53
     go_wp2_with (first | ((with_reducible refine gd_ 1 rfl ?_); refine bx_ 1 rfl #[.int .i64 a0_0, .int .i64 a0_1, .int .i64 a0_2, .int .i64 a0_3, .int .i64 a0_4] 59 ?_; intro a6 hg w12 hbox hb; have a5 := yad (hbox); have a7 := yad ((by rw [hg]; exact (below_size (upH HB.out)) : w.heap.size ≤ a6)); replace HB := yad (below_step (upH HB.out) hb); have b2 := a7; clear hb hbox hg; obtain ⟨c9, d0, d1, d2, d3⟩ := cc5_ a5.out; obtain ⟨d4, d5, d6, d7⟩ := cf4_ a5.out; have d8 := blk_frozen a5.out 4) | ((with_reducible refine gc_ 52 rfl ?_); refine gl_ (some 9) rfl Tryd.func52 #[.int .i64 a0_1, .int .i64 0, .int .i64 5] ?_; (with_reducible refine (impl_within.calls a0_1 0 5 true _ A3.out).mono ?_); rintro e w' ⟨rfl, ⟨nd, rfl⟩⟩; refine ⟨_, rfl, ?_⟩) | (go_at_call 52; (with_reducible refine (impl_within.calls a0_2 0 5 true _ A5.out).mono ?_); rintro e w' ⟨rfl, ⟨nd, rfl⟩⟩) | (go_at_call 64; (with_reducible refine (impl_sizeOk.calls a0_3 false _ A7.out).mono ?_); rintro e w' ⟨rfl, ⟨nd, rfl⟩⟩))
     go_ret
     exact ⟨by first | rfl | (simp [*, errW_none, errW_some] <;> rfl), by repeat (with_reducible first | exact HB.out | apply yab | apply yaa | apply yac | refine yae ?_ (Aside0.out ‹_›))⟩
   ·
    replace c6 := Bool.eq_false_iff.mpr c6
    subst c6
    rw [if_neg (show ¬ (false = true) by decide)] at H
    obtain rfl := Option.some.inj H
    go_enter Tryd.func53, Tryd.ntmps53
    go_wp2_with (first | ((with_reducible refine gd_ 1 rfl ?_); refine bx_ 1 rfl #[.int .i64 a0_0, .int .i64 a0_1, .int .i64 a0_2, .int .i64 a0_3, .int .i64 a0_4] 59 ?_; intro a6 hg w14 hbox hb; have a5 := yad (hbox); have a7 := yad ((by rw [hg]; exact (below_size (upH HB.out)) : w.heap.size ≤ a6)); replace HB := yad (below_step (upH HB.out) hb); have b2 := a7; clear hb hbox hg; obtain ⟨d9, e0, e1, e2, e3⟩ := cc5_ a5.out; obtain ⟨e4, e5, e6, e7⟩ := cf4_ a5.out; have e8 := blk_frozen a5.out 4) | ((with_reducible refine gc_ 52 rfl ?_); refine gl_ (some 9) rfl Tryd.func52 #[.int .i64 a0_1, .int .i64 0, .int .i64 5] ?_; (with_reducible refine (impl_within.calls a0_1 0 5 true _ A3.out).mono ?_); rintro e w' ⟨rfl, ⟨nd, rfl⟩⟩; refine ⟨_, rfl, ?_⟩) | (go_at_call 52; (with_reducible refine (impl_within.calls a0_2 0 5 false _ A5.out).mono ?_); rintro e w' ⟨rfl, ⟨nd, rfl⟩⟩))
    go_ret
    exact ⟨by first | rfl | (simp [*, errW_none, errW_some] <;> rfl), by repeat (with_reducible first | exact HB.out | apply yab | apply yaa | apply yac | refine yae ?_ (Aside0.out ‹_›))⟩
  ·
   replace c4 := Bool.eq_false_iff.mpr c4
   subst c4
   rw [if_neg (show ¬ (false = true) by decide)] at H
   obtain rfl := Option.some.inj H
   go_enter Tryd.func53, Tryd.ntmps53
   go_wp2_with (first | ((with_reducible refine gd_ 1 rfl ?_); refine bx_ 1 rfl #[.int .i64 a0_0, .int .i64 a0_1, .int .i64 a0_2, .int .i64 a0_3, .int .i64 a0_4] 59 ?_; intro a6 hg w16 hbox hb; have a5 := yad (hbox); have a7 := yad ((by rw [hg]; exact (below_size (upH HB.out)) : w.heap.size ≤ a6)); replace HB := yad (below_step (upH HB.out) hb); have b2 := a7; clear hb hbox hg; obtain ⟨e9, f0, f1, f2, f3⟩ := cc5_ a5.out; obtain ⟨f4, f5, f6, f7⟩ := cf4_ a5.out; have f8 := blk_frozen a5.out 4) | ((with_reducible refine gc_ 52 rfl ?_); refine gl_ (some 9) rfl Tryd.func52 #[.int .i64 a0_1, .int .i64 0, .int .i64 5] ?_; (with_reducible refine (impl_within.calls a0_1 0 5 false _ A3.out).mono ?_); rintro e w' ⟨rfl, ⟨nd, rfl⟩⟩; refine ⟨_, rfl, ?_⟩))
   go_ret
   exact ⟨by first | rfl | (simp [*, errW_none, errW_some] <;> rfl), by repeat (with_reducible first | exact HB.out | apply yab | apply yaa | apply yac | refine yae ?_ (Aside0.out ‹_›))⟩
 ·
  rw [if_neg c2] at H
  have i0 := beq_eq_false_iff_ne.mpr c2; have i1 := bne_iff_ne.mpr c2; have HC18 := yad H; clear H
  go_enter Tryd.func53, Tryd.ntmps53
  go_upto_if 25 with (first | ((with_reducible refine gd_ 1 rfl ?_); refine bx_ 1 rfl #[.int .i64 a0_0, .int .i64 a0_1, .int .i64 a0_2, .int .i64 a0_3, .int .i64 a0_4] 59 ?_; intro a6 hg w19 hbox hb; have a5 := yad (hbox); have a7 := yad ((by rw [hg]; exact (below_size (upH HB.out)) : w.heap.size ≤ a6)); replace HB := yad (below_step (upH HB.out) hb); have b2 := a7; clear hb hbox hg; obtain ⟨f9, g0, g1, g2, g3⟩ := cc5_ a5.out; obtain ⟨g4, g5, g6, g7⟩ := cf4_ a5.out; have g8 := blk_frozen a5.out 4))
  (try simp only [Act.put, List.setIfInBounds_toArray, List.set_cons_zero, List.set_cons_succ])
  go_cut [25] (fun v25 wc => ∃ (kq : Nat) (b0 : Bool), v25 = .bool b0 ∧ Aside0 (impl_OpOk.j0 kq a0_0 b0 a0_0 a0_1 a0_2 a0_3 a0_4 = some r) ∧ Aside0 (kq ≤ k) ∧ Aside0 (wc.heap[a6]? = some (.cells #[.int .i64 a0_0, .int .i64 a0_1, .int .i64 a0_2, .int .i64 a0_3, .int .i64 a0_4] 59 (0, 0))) ∧ Aside0 (Below w.heap.size w wc))
  case first =>
   have H := HC18.out; clear HC18
   by_cases c21 : a0_0 = 2
   ·
    rw [if_pos c21] at H
    have a9 := beq_iff_eq.mpr c21; have g9 := bne_eq_false_iff_eq.mpr c21; clear c21
    (first | rw [a9] | (simp only [i64_w, i32_w]; rw [a9]) | skip)
    have H' := yad H; clear H
    go_wp2
    go_meet
    case rel => exact ⟨_, ((a0_0 == 2)), (by first | rfl | (simp; done) | (simp [*]; done)), H', ⟨by first | omega | exact Nat.le_refl _⟩, ⟨by exact upB a5.out⟩, ⟨by repeat (with_reducible first | exact HB.out | apply yab | apply yaa | apply yac | refine yae ?_ (Aside0.out ‹_›))⟩⟩
   ·
    rw [if_neg c21] at H
    have a9 := beq_eq_false_iff_ne.mpr c21; have g9 := bne_iff_ne.mpr c21
    (first | rw [a9] | (simp only [i64_w, i32_w]; rw [a9]) | skip)
    by_cases c22 : a0_0 = 3
    ·
     rw [if_pos c22] at H
     have h0 := beq_iff_eq.mpr c22; have h1 := bne_eq_false_iff_eq.mpr c22; clear c22; have H' := yad H; clear H
     go_wp2
     go_meet
     case rel => exact ⟨_, ((a0_0 == 3)), (by first | rfl | (simp; done) | (simp [*]; done)), H', ⟨by first | omega | exact Nat.le_refl _⟩, ⟨by exact upB a5.out⟩, ⟨by repeat (with_reducible first | exact HB.out | apply yab | apply yaa | apply yac | refine yae ?_ (Aside0.out ‹_›))⟩⟩
    ·
     rw [if_neg c22] at H
     have h0 := beq_eq_false_iff_ne.mpr c22; have h1 := bne_iff_ne.mpr c22
     by_cases c23 : a0_0 = 4
     ·
      rw [if_pos c23] at H
      have h2 := beq_iff_eq.mpr c23; have h3 := bne_eq_false_iff_eq.mpr c23; clear c23; have H' := yad H; clear H
      go_wp2
      go_meet
      case rel => exact ⟨_, ((a0_0 == 4)), (by first | rfl | (simp; done) | (simp [*]; done)), H', ⟨by first | omega | exact Nat.le_refl _⟩, ⟨by exact upB a5.out⟩, ⟨by repeat (with_reducible first | exact HB.out | apply yab | apply yaa | apply yac | refine yae ?_ (Aside0.out ‹_›))⟩⟩
     ·
      rw [if_neg c23] at H
      have h2 := beq_eq_false_iff_ne.mpr c23; have h3 := bne_iff_ne.mpr c23
      by_cases c24 : a0_0 = 5
      ·
       rw [if_pos c24] at H
       have h4 := beq_iff_eq.mpr c24; have h5 := bne_eq_false_iff_eq.mpr c24; clear c24; have H' := yad H; clear H
       go_wp2
       go_meet
       case rel => exact ⟨_, ((a0_0 == 5)), (by first | rfl | (simp; done) | (simp [*]; done)), H', ⟨by first | omega | exact Nat.le_refl _⟩, ⟨by exact upB a5.out⟩, ⟨by repeat (with_reducible first | exact HB.out | apply yab | apply yaa | apply yac | refine yae ?_ (Aside0.out ‹_›))⟩⟩
      ·
       rw [if_neg c24] at H
       have h4 := beq_eq_false_iff_ne.mpr c24; have h5 := bne_iff_ne.mpr c24; have H' := yad H; clear H
       go_wp2
       go_meet
       case rel => exact ⟨_, ((a0_0 == 6)), (by first | rfl | (simp; done) | (simp [*]; done)), H', ⟨by first | omega | exact Nat.le_refl _⟩, ⟨by exact upB a5.out⟩, ⟨by repeat (with_reducible first | exact HB.out | apply yab | apply yaa | apply yac | refine yae ?_ (Aside0.out ‹_›))⟩⟩
  case rest =>
   clear HC18; (try clear c2); (try clear i0); (try clear i1); (try clear p2); (try clear c4); (try clear c5); (try clear c6); (try clear c8); (try clear c21); (try clear a9); (try clear g9); (try clear c22); (try clear h0); (try clear h1); (try clear c23); (try clear h2); (try clear h3); (try clear c24); (try clear h4); (try clear h5); (try clear b3); (try clear b4); (try clear b5); (try clear b6); (try clear b7); (try clear c9); (try clear d0); (try clear d1); (try clear d2); (try clear d3); (try clear d9); (try clear e0); (try clear e1); (try clear e2); (try clear e3); (try clear e9); (try clear f0); (try clear f1); (try clear f2); (try clear f3); (try clear f9); (try clear g0); (try clear g1); (try clear g2); (try clear g3); (try clear b8); (try clear b9); (try clear c0); (try clear c1); (try clear c7); (try clear d4); (try clear d5); (try clear d6); (try clear d7); (try clear d8); (try clear e4); (try clear e5); (try clear e6); (try clear e7); (try clear e8); (try clear f4); (try clear f5); (try clear f6); (try clear f7); (try clear f8); (try clear g4); (try clear g5); (try clear g6); (try clear g7); (try clear g8); obtain ⟨kq, b0, rfl, HA, HJ17, a5, HB⟩ := hcut
   cases kq with
   | zero => exact absurd HA.out (by simp [impl_OpOk.j0])
   | succ kj17 =>
    have H := HA.out; clear HA
    simp only [impl_OpOk.j0] at H
    by_cases c25 : b0 = true
    ·
     subst c25
     rw [if_pos rfl] at H
     obtain rfl := Option.some.inj H; obtain ⟨i8, i9, j1, j2, j3⟩ := cc5_ a5.out; obtain ⟨j4, j5, j6, j7, j8⟩ := cf5_ a5.out
     go_wp2
     go_ret
     exact ⟨by first | rfl | (simp [*, errW_none, errW_some] <;> rfl), by repeat (with_reducible first | exact HB.out | apply yab | apply yaa | apply yac | refine yae ?_ (Aside0.out ‹_›))⟩
    ·
     replace c25 := Bool.eq_false_iff.mpr c25
     subst c25
     rw [if_neg (show ¬ (false = true) by decide)] at H
     by_cases c27 : a0_0 = 7
     ·
      rw [if_pos c27] at H
      have i2 := beq_iff_eq.mpr c27; have i3 := bne_eq_false_iff_eq.mpr c27; clear c27; obtain ⟨s0, A28, H⟩ := bindA H; (try dsimp only at H)
      by_cases c29 : s0 = true
      ·
       subst c29
       rw [if_pos rfl] at H
       obtain ⟨s1, A30, H⟩ := bindA H; (try dsimp only at H)
       by_cases c31 : s1 = true
       ·
        subst c31
        rw [if_pos rfl] at H
        by_cases c32 : a0_3 = 0
        ·
         rw [if_pos c32] at H
         have i4 := beq_iff_eq.mpr c32; have i5 := bne_eq_false_iff_eq.mpr c32; clear c32; obtain rfl := Option.some.inj H; obtain ⟨j9, k0, k1, k2, k3⟩ := cc5_ a5.out; obtain ⟨k4, k5, k6, k7, k8⟩ := cf5_ a5.out
         go_wp2_with (first | ((with_reducible refine gc_ 64 rfl ?_); refine gl_ (some 40) rfl Tryd.func64 #[.int .i64 a0_1] ?_; (with_reducible refine (impl_sizeOk.calls a0_1 true _ A28.out).mono ?_); rintro e w' ⟨rfl, ⟨nd, rfl⟩⟩; refine ⟨_, rfl, ?_⟩) | (go_at_call 64; (with_reducible refine (impl_sizeOk.calls a0_2 true _ A30.out).mono ?_); rintro e w' ⟨rfl, ⟨nd, rfl⟩⟩))
         go_ret
         exact ⟨by first | rfl | (simp [*, errW_none, errW_some] <;> rfl), by repeat (with_reducible first | exact HB.out | apply yab | apply yaa | apply yac | refine yae ?_ (Aside0.out ‹_›))⟩
        ·
         rw [if_neg c32] at H
         have i4 := beq_eq_false_iff_ne.mpr c32; have i5 := bne_iff_ne.mpr c32; obtain rfl := Option.some.inj H; obtain ⟨k9, l0, l1, l2, l3⟩ := cc5_ a5.out; obtain ⟨l4, l5, l6, l7, l8⟩ := cf5_ a5.out
         go_wp2_with (first | ((with_reducible refine gc_ 64 rfl ?_); refine gl_ (some 40) rfl Tryd.func64 #[.int .i64 a0_1] ?_; (with_reducible refine (impl_sizeOk.calls a0_1 true _ A28.out).mono ?_); rintro e w' ⟨rfl, ⟨nd, rfl⟩⟩; refine ⟨_, rfl, ?_⟩) | (go_at_call 64; (with_reducible refine (impl_sizeOk.calls a0_2 true _ A30.out).mono ?_); rintro e w' ⟨rfl, ⟨nd, rfl⟩⟩))
         go_ret
         exact ⟨by first | rfl | (simp [*, errW_none, errW_some] <;> rfl), by repeat (with_reducible first | exact HB.out | apply yab | apply yaa | apply yac | refine yae ?_ (Aside0.out ‹_›))⟩
       ·
        replace c31 := Bool.eq_false_iff.mpr c31
        subst c31
        rw [if_neg (show ¬ (false = true) by decide)] at H
        obtain rfl := Option.some.inj H; obtain ⟨l9, m0, m1, m2, m3⟩ := cc5_ a5.out; obtain ⟨m4, m5, m6, m7, m8⟩ := cf5_ a5.out
        go_wp2_with (first | ((with_reducible refine gc_ 64 rfl ?_); refine gl_ (some 40) rfl Tryd.func64 #[.int .i64 a0_1] ?_; (with_reducible refine (impl_sizeOk.calls a0_1 true _ A28.out).mono ?_); rintro e w' ⟨rfl, ⟨nd, rfl⟩⟩; refine ⟨_, rfl, ?_⟩) | (go_at_call 64; (with_reducible refine (impl_sizeOk.calls a0_2 false _ A30.out).mono ?_); rintro e w' ⟨rfl, ⟨nd, rfl⟩⟩))
        go_ret
        exact ⟨by first | rfl | (simp [*, errW_none, errW_some] <;> rfl), by repeat (with_reducible first | exact HB.out | apply yab | apply yaa | apply yac | refine yae ?_ (Aside0.out ‹_›))⟩
      ·
       replace c29 := Bool.eq_false_iff.mpr c29
       subst c29
       rw [if_neg (show ¬ (false = true) by decide)] at H
       obtain rfl := Option.some.inj H; obtain ⟨m9, n0, n1, n2, n3⟩ := cc5_ a5.out; obtain ⟨n4, n5, n6, n7, n8⟩ := cf5_ a5.out
       go_wp2_with (first | ((with_reducible refine gc_ 64 rfl ?_); refine gl_ (some 40) rfl Tryd.func64 #[.int .i64 a0_1] ?_; (with_reducible refine (impl_sizeOk.calls a0_1 false _ A28.out).mono ?_); rintro e w' ⟨rfl, ⟨nd, rfl⟩⟩; refine ⟨_, rfl, ?_⟩))
       go_ret
       exact ⟨by first | rfl | (simp [*, errW_none, errW_some] <;> rfl), by repeat (with_reducible first | exact HB.out | apply yab | apply yaa | apply yac | refine yae ?_ (Aside0.out ‹_›))⟩
     ·
      rw [if_neg c27] at H
      have i2 := beq_eq_false_iff_ne.mpr c27; have i3 := bne_iff_ne.mpr c27
      by_cases c37 : a0_0 = 8
      ·
       rw [if_pos c37] at H
       have i6 := beq_iff_eq.mpr c37; have i7 := bne_eq_false_iff_eq.mpr c37; clear c37; obtain ⟨s2, A38, H⟩ := bindA H; (try dsimp only at H)
       by_cases c39 : s2 = true
       ·
        subst c39
        rw [if_pos rfl] at H
        obtain ⟨s3, A40, H⟩ := bindA H; (try dsimp only at H)
        by_cases c41 : s3 = true
        ·
         subst c41
         rw [if_pos rfl] at H
         obtain ⟨s4, A42, H⟩ := bindA H; (try dsimp only at H)
         by_cases c43 : s4 = true
         ·
          subst c43
          rw [if_pos rfl] at H
          obtain rfl := Option.some.inj H; obtain ⟨n9, o0, o1, o2, o3⟩ := cc5_ a5.out; obtain ⟨o4, o5, o6, o7, o8⟩ := cf5_ a5.out
          go_wp2_with (first | ((with_reducible refine gc_ 49 rfl ?_); refine gl_ (some 60) rfl Tryd.func49 #[.int .i64 a0_1] ?_; (with_reducible refine (impl_partOk.calls a0_1 true _ A38.out).mono ?_); rintro e w' ⟨rfl, ⟨nd, rfl⟩⟩; refine ⟨_, rfl, ?_⟩) | (go_at_call 49; (with_reducible refine (impl_partOk.calls a0_2 true _ A40.out).mono ?_); rintro e w' ⟨rfl, ⟨nd, rfl⟩⟩) | (go_at_call 49; (with_reducible refine (impl_partOk.calls a0_3 true _ A42.out).mono ?_); rintro e w' ⟨rfl, ⟨nd, rfl⟩⟩))
          go_ret
          exact ⟨by first | rfl | (simp [*, errW_none, errW_some] <;> rfl), by repeat (with_reducible first | exact HB.out | apply yab | apply yaa | apply yac | refine yae ?_ (Aside0.out ‹_›))⟩
         ·
          replace c43 := Bool.eq_false_iff.mpr c43
          subst c43
          rw [if_neg (show ¬ (false = true) by decide)] at H
          obtain rfl := Option.some.inj H; obtain ⟨o9, p0, p1, p3, p4⟩ := cc5_ a5.out; obtain ⟨p5, p6, p7, p8, p9⟩ := cf5_ a5.out
          go_wp2_with (first | ((with_reducible refine gc_ 49 rfl ?_); refine gl_ (some 60) rfl Tryd.func49 #[.int .i64 a0_1] ?_; (with_reducible refine (impl_partOk.calls a0_1 true _ A38.out).mono ?_); rintro e w' ⟨rfl, ⟨nd, rfl⟩⟩; refine ⟨_, rfl, ?_⟩) | (go_at_call 49; (with_reducible refine (impl_partOk.calls a0_2 true _ A40.out).mono ?_); rintro e w' ⟨rfl, ⟨nd, rfl⟩⟩) | (go_at_call 49; (with_reducible refine (impl_partOk.calls a0_3 false _ A42.out).mono ?_); rintro e w' ⟨rfl, ⟨nd, rfl⟩⟩))
          go_ret
          exact ⟨by first | rfl | (simp [*, errW_none, errW_some] <;> rfl), by repeat (with_reducible first | exact HB.out | apply yab | apply yaa | apply yac | refine yae ?_ (Aside0.out ‹_›))⟩
        ·
         replace c41 := Bool.eq_false_iff.mpr c41
         subst c41
         rw [if_neg (show ¬ (false = true) by decide)] at H
         obtain rfl := Option.some.inj H; obtain ⟨q0, q1, q2, q3, q4⟩ := cc5_ a5.out; obtain ⟨q5, q6, q7, q8, q9⟩ := cf5_ a5.out
         go_wp2_with (first | ((with_reducible refine gc_ 49 rfl ?_); refine gl_ (some 60) rfl Tryd.func49 #[.int .i64 a0_1] ?_; (with_reducible refine (impl_partOk.calls a0_1 true _ A38.out).mono ?_); rintro e w' ⟨rfl, ⟨nd, rfl⟩⟩; refine ⟨_, rfl, ?_⟩) | (go_at_call 49; (with_reducible refine (impl_partOk.calls a0_2 false _ A40.out).mono ?_); rintro e w' ⟨rfl, ⟨nd, rfl⟩⟩))
         go_ret
         exact ⟨by first | rfl | (simp [*, errW_none, errW_some] <;> rfl), by repeat (with_reducible first | exact HB.out | apply yab | apply yaa | apply yac | refine yae ?_ (Aside0.out ‹_›))⟩
       ·
        replace c39 := Bool.eq_false_iff.mpr c39
        subst c39
        rw [if_neg (show ¬ (false = true) by decide)] at H
        obtain rfl := Option.some.inj H; obtain ⟨r0, r1, r2, r3, r4⟩ := cc5_ a5.out; obtain ⟨r5, r6, r7, r8, r9⟩ := cf5_ a5.out
        go_wp2_with (first | ((with_reducible refine gc_ 49 rfl ?_); refine gl_ (some 60) rfl Tryd.func49 #[.int .i64 a0_1] ?_; (with_reducible refine (impl_partOk.calls a0_1 false _ A38.out).mono ?_); rintro e w' ⟨rfl, ⟨nd, rfl⟩⟩; refine ⟨_, rfl, ?_⟩))
        go_ret
        exact ⟨by first | rfl | (simp [*, errW_none, errW_some] <;> rfl), by repeat (with_reducible first | exact HB.out | apply yab | apply yaa | apply yac | refine yae ?_ (Aside0.out ‹_›))⟩
      ·
       rw [if_neg c37] at H
       have i6 := beq_eq_false_iff_ne.mpr c37; have i7 := bne_iff_ne.mpr c37; obtain rfl := Option.some.inj H
       go_wp2
       go_ret
       exact ⟨by first | rfl | (simp [*, errW_none, errW_some] <;> rfl), by repeat (with_reducible first | exact HB.out | apply yab | apply yaa | apply yac | refine yae ?_ (Aside0.out ‹_›))⟩
end
section
open Go.Proofs.YtmbkhindhndccaaDoor.X renaming rd_T59 → yaa

def impl_opsOk.l0 : Nat → List (S59) → Int → Int → Option (Bool)
 | 0, _, _, _ => none
 | k + 1, x8, x9, x10 => if x10 < x9 then (if 0 ≤ x10 then (if x10 < (x8.length : Int) then ((impl_OpOk.f k ((rd_T59 x8 x10).f0) ((rd_T59 x8 x10).f1) ((rd_T59 x8 x10).f2) ((rd_T59 x8 x10).f3) ((rd_T59 x8 x10).f4)).bind fun t103 => (if t103 = true then (impl_opsOk.l0 k x8 x9 (wrap64 (x10 + 1))) else (some false))) else (none)) else (none)) else (some true)
def impl_opsOk.f (k : Nat) (l0 : List (S59)) : Option (Bool) := if (l0.length : Int) > 5 then (some false) else (impl_opsOk.l0 k l0 (l0.length : Int) 0)
set_option maxHeartbeats 8000000 in
set_option maxRecDepth 100000 in
theorem impl_opsOk.calls (k : Nat) (A0 : Option Addr) (c0 : Nat) (l0 : List (S59)) (r : Bool) (w : World) (hr0 : Kd.C k59 w A0 l0.length l0) (hc0 : l0.length ≤ c0) (h : impl_opsOk.f k l0 = some r) :
  Calls Tryd.prog 50 #[.slice A0 l0.length c0] w fun e w' => e = .returned (.bool r) ∧ Below w.heap.size w w' := by
 have hu59 := Tryd.underlying59; have HR0 := Aside0.mk hr0; have HC0 := Aside0.mk hc0; clear hr0 hc0; have HB := Aside0.mk (Below.refl w.heap.size w); have H : (if (l0.length : Int) > 5 then (some false) else (impl_opsOk.l0 k l0 (l0.length : Int) 0)) = some r := h; clear h
 by_cases c2 : (l0.length : Int) > 5
 ·
  rw [if_pos c2] at H
  have b1 : decide (5 < (l0.length : Int)) = true := decide_eq_true c2; have b2 : decide (5 < l0.length) = true := decide_eq_true (by omega); clear c2; obtain rfl := Option.some.inj H
  go_enter Tryd.func50, Tryd.ntmps50
  go_wp2
  go_ret
  exact ⟨by first | rfl | (simp [*, errW_none, errW_some] <;> rfl), upH HB.out⟩
 ·
  rw [if_neg c2] at H
  have b1 : decide (5 < (l0.length : Int)) = false := decide_eq_false c2; have b2 : decide (5 < l0.length) = false := decide_eq_false (by omega); clear c2; have H' := Aside0.mk H; clear H
  go_enter Tryd.func50, Tryd.ntmps50
  go_wp2
  (try simp only [Act.put, List.setIfInBounds_toArray, List.set_cons_zero, List.set_cons_succ])
  go_loopg [10] k (fun kq v10 w' => ∃ (a1 : Int), v10 = .int .i64 a1 ∧ Aside0 (impl_opsOk.l0 kq l0 (l0.length : Int) a1 = some r) ∧ Aside0 (kq ≤ k) ∧ Aside0 (Below w.heap.size w w'))
  case atStart => exact ⟨(0), (by first | rfl | (simp; done) | (simp [*]; done)), H', ⟨Nat.le_refl _⟩, ⟨upH HB.out⟩⟩
  case round =>
   clear H'; (try clear c2); (try clear b1); (try clear b2); (try clear p2); obtain ⟨a1, rfl, HA, HK1, HB⟩ := hrel
   cases gk with
   | zero => exact absurd HA.out (by simp [impl_opsOk.l0])
   | succ k1 =>
    have H := HA.out; clear HA
    simp only [impl_opsOk.l0] at H
    by_cases c3 : a1 < (l0.length : Int)
    ·
     rw [if_pos c3] at H
     have d0 : decide (a1 < (l0.length : Int)) = true := decide_eq_true c3; clear c3
     by_cases c4 : 0 ≤ a1
     ·
      rw [if_pos c4] at H
      replace c4 := decide_eq_true c4
      by_cases c5 : a1 < (l0.length : Int)
      ·
       rw [if_pos c5] at H
       replace c5 := decide_eq_true c5; obtain ⟨d1, A6, H⟩ := bindA H; (try dsimp only at H)
       by_cases c7 : d1 = true
       ·
        subst c7
        rw [if_pos rfl] at H
        have H' := Aside0.mk H; clear H; have p101 : 0 ≤ (a1 : Int) := of_decide_eq_true (by assumption); have q101 : a1 < (l0.length : Int) := of_decide_eq_true (by assumption); obtain ⟨ad101, b0, a3, a4, a5, a6, a7⟩ := at_T59 HR0.out a1 p101 q101
        cases b0
        replace a3 := (upc_ HB.out a3 :); replace a4 := (upc_ HB.out a4 :); replace a5 := (upc_ HB.out a5 :); replace a6 := (upc_ HB.out a6 :); replace a7 := (upc_ HB.out a7 :); replace p101 := eq_true p101; replace q101 := eq_true q101
        go_wp2_with (first | ((with_reducible refine gd_ 4 rfl ?_); refine bx_ 4 rfl #[.int .i64 0, .int .i64 0, .int .i64 0, .int .i64 0, .int .i64 0] 59 ?_; intro a8 hg w8 hbox hb; have a2 := Aside0.mk (hbox); have a9 := Aside0.mk ((by rw [hg]; exact (below_size (upH HB.out)) : w.heap.size ≤ a8)); replace HB := Aside0.mk (below_step (upH HB.out) hb); have b3 := a9; clear hb hbox hg; obtain ⟨d2, d3, d4, d5, d6⟩ := cc5_ a2.out; obtain ⟨d8, d9, e0, e1⟩ := cf4_ a2.out; have e3 := blk_frozen a2.out 4) | ((with_reducible refine gc_ 53 rfl ?_); refine gl_ (some 15) rfl Tryd.func53 #[.agg #[.int .i64 ((yaa l0 a1).f0), .int .i64 ((yaa l0 a1).f1), .int .i64 ((yaa l0 a1).f2), .int .i64 ((yaa l0 a1).f3), .int .i64 ((yaa l0 a1).f4)]] ?_; (with_reducible refine (impl_OpOk.calls k1 ((yaa l0 a1).f0) ((yaa l0 a1).f1) ((yaa l0 a1).f2) ((yaa l0 a1).f3) ((yaa l0 a1).f4) true _ A6.out).mono ?_); rintro e w10 ⟨rfl, hb⟩; refine ⟨_, rfl, ?_⟩; replace a2 := Aside0.mk (blk_below (g := a8) (o := .cells #[.int .i64 ((yaa l0 a1).f0), .int .i64 ((yaa l0 a1).f1), .int .i64 ((yaa l0 a1).f2), .int .i64 ((yaa l0 a1).f3), .int .i64 ((yaa l0 a1).f4)] 59 (0, 0)) (by (repeat refine oneB ?_); refine blk_put (cs := #[.int .i64 ((yaa l0 a1).f0), .int .i64 ((yaa l0 a1).f1), .int .i64 ((yaa l0 a1).f2), .int .i64 ((yaa l0 a1).f3), .int .i64 0]) ?_ 4 _ rfl; refine blk_put (cs := #[.int .i64 ((yaa l0 a1).f0), .int .i64 ((yaa l0 a1).f1), .int .i64 ((yaa l0 a1).f2), .int .i64 0, .int .i64 0]) ?_ 3 _ rfl; refine blk_put (cs := #[.int .i64 ((yaa l0 a1).f0), .int .i64 ((yaa l0 a1).f1), .int .i64 0, .int .i64 0, .int .i64 0]) ?_ 2 _ rfl; refine blk_put (cs := #[.int .i64 ((yaa l0 a1).f0), .int .i64 0, .int .i64 0, .int .i64 0, .int .i64 0]) ?_ 1 _ rfl; refine blk_put (cs := #[.int .i64 0, .int .i64 0, .int .i64 0, .int .i64 0, .int .i64 0]) ?_ 0 _ rfl; exact upB a2.out) hb); replace HB := Aside0.mk (below_step (by repeat (with_reducible first | exact HB.out | apply below_alloc | apply pw_below_drewN | apply below_drew1 | refine below_set ?_ (Aside0.out ‹_›))) hb); (try clear hb)))
        go_roundg k1
        case measure => have := HK1.out; omega
        case rel => exact ⟨(wrap64 (a1 + 1)), (by first | rfl | (simp; done) | (simp [*]; done)), H', ⟨by have := HK1.out; omega⟩, ⟨by repeat (with_reducible first | exact HB.out | apply below_alloc | apply pw_below_drewN | apply below_drew1 | refine below_set ?_ (Aside0.out ‹_›))⟩⟩
       ·
        replace c7 := Bool.eq_false_iff.mpr c7
        subst c7
        rw [if_neg (show ¬ (false = true) by decide)] at H
        obtain rfl := Option.some.inj H; have p101 : 0 ≤ (a1 : Int) := of_decide_eq_true (by assumption); have q101 : a1 < (l0.length : Int) := of_decide_eq_true (by assumption); obtain ⟨ad101, b0, a3, a4, a5, a6, a7⟩ := at_T59 HR0.out a1 p101 q101
        cases b0
        replace a3 := (upc_ HB.out a3 :); replace a4 := (upc_ HB.out a4 :); replace a5 := (upc_ HB.out a5 :); replace a6 := (upc_ HB.out a6 :); replace a7 := (upc_ HB.out a7 :); replace p101 := eq_true p101; replace q101 := eq_true q101
        go_wp2_with (first | ((with_reducible refine gd_ 4 rfl ?_); refine bx_ 4 rfl #[.int .i64 0, .int .i64 0, .int .i64 0, .int .i64 0, .int .i64 0] 59 ?_; intro a8 hg w11 hbox hb; have a2 := Aside0.mk (hbox); have a9 := Aside0.mk ((by rw [hg]; exact (below_size (upH HB.out)) : w.heap.size ≤ a8)); replace HB := Aside0.mk (below_step (upH HB.out) hb); have b3 := a9; clear hb hbox hg; obtain ⟨b4, b5, b6, b7, b8⟩ := cc5_ a2.out; obtain ⟨b9, c1, c6, c8⟩ := cf4_ a2.out; have c9 := blk_frozen a2.out 4) | ((with_reducible refine gc_ 53 rfl ?_); refine gl_ (some 15) rfl Tryd.func53 #[.agg #[.int .i64 ((yaa l0 a1).f0), .int .i64 ((yaa l0 a1).f1), .int .i64 ((yaa l0 a1).f2), .int .i64 ((yaa l0 a1).f3), .int .i64 ((yaa l0 a1).f4)]] ?_; (with_reducible refine (impl_OpOk.calls k1 ((yaa l0 a1).f0) ((yaa l0 a1).f1) ((yaa l0 a1).f2) ((yaa l0 a1).f3) ((yaa l0 a1).f4) false _ A6.out).mono ?_); rintro e w13 ⟨rfl, hb⟩; refine ⟨_, rfl, ?_⟩; replace a2 := Aside0.mk (blk_below (g := a8) (o := .cells #[.int .i64 ((yaa l0 a1).f0), .int .i64 ((yaa l0 a1).f1), .int .i64 ((yaa l0 a1).f2), .int .i64 ((yaa l0 a1).f3), .int .i64 ((yaa l0 a1).f4)] 59 (0, 0)) (by (repeat refine oneB ?_); refine blk_put (cs := #[.int .i64 ((yaa l0 a1).f0), .int .i64 ((yaa l0 a1).f1), .int .i64 ((yaa l0 a1).f2), .int .i64 ((yaa l0 a1).f3), .int .i64 0]) ?_ 4 _ rfl; refine blk_put (cs := #[.int .i64 ((yaa l0 a1).f0), .int .i64 ((yaa l0 a1).f1), .int .i64 ((yaa l0 a1).f2), .int .i64 0, .int .i64 0]) ?_ 3 _ rfl; refine blk_put (cs := #[.int .i64 ((yaa l0 a1).f0), .int .i64 ((yaa l0 a1).f1), .int .i64 0, .int .i64 0, .int .i64 0]) ?_ 2 _ rfl; refine blk_put (cs := #[.int .i64 ((yaa l0 a1).f0), .int .i64 0, .int .i64 0, .int .i64 0, .int .i64 0]) ?_ 1 _ rfl; refine blk_put (cs := #[.int .i64 0, .int .i64 0, .int .i64 0, .int .i64 0, .int .i64 0]) ?_ 0 _ rfl; exact upB a2.out) hb); replace HB := Aside0.mk (below_step (by repeat (with_reducible first | exact HB.out | apply below_alloc | apply pw_below_drewN | apply below_drew1 | refine below_set ?_ (Aside0.out ‹_›))) hb); (try clear hb)))
        go_ret
        exact ⟨by first | rfl | (simp [*, errW_none, errW_some] <;> rfl), by repeat (with_reducible first | exact HB.out | apply below_alloc | apply pw_below_drewN | apply below_drew1 | refine below_set ?_ (Aside0.out ‹_›))⟩
      ·
       rw [if_neg c5] at H
       exact absurd H (by simp)
     ·
      rw [if_neg c4] at H
      exact absurd H (by simp)
    ·
     rw [if_neg c3] at H
     have d0 : decide (a1 < (l0.length : Int)) = false := decide_eq_false c3; clear c3; obtain rfl := Option.some.inj H
     go_wp2
     go_ret
     exact ⟨by first | rfl | (simp [*, errW_none, errW_some] <;> rfl), upH HB.out⟩
end
section
open Go.Proofs.YtmbkhindhndccaaDoorW.PrintWords.Drawn0 renaming refl → yaa, step → yab

mutual
def impl_nameOk.j0 : Nat → ByteArray → Bool → Option (Bool)
 | 0, _, _ => none
 | k + 1, x0, x13 => if x13 = true then (some false) else (impl_nameOk.l0 k x0 (x0.size : Int) 0)
def impl_nameOk.l0 : Nat → ByteArray → Int → Int → Option (Bool)
 | 0, _, _, _ => none
 | k + 1, x0, x15, x16 => if x16 < x15 then (if 0 ≤ x16 then (if x16 < (x0.size : Int) then (if (bt x0 x16) ≥ 97 then (if (bt x0 x16) ≥ 48 then (if ((bt x0 x16) ≤ 122) then (impl_nameOk.l0 k x0 x15 (wrap64 (x16 + 1))) else (if ((bt x0 x16) ≤ 57) then (impl_nameOk.l0 k x0 x15 (wrap64 (x16 + 1))) else (some false))) else (if ((bt x0 x16) ≤ 122) then (impl_nameOk.l0 k x0 x15 (wrap64 (x16 + 1))) else (some false))) else (if (bt x0 x16) ≥ 48 then (if ((bt x0 x16) ≤ 57) then (impl_nameOk.l0 k x0 x15 (wrap64 (x16 + 1))) else (some false)) else (some false))) else (none)) else (none)) else (some true)
end
def impl_nameOk.f (k : Nat) (a0 : ByteArray) : Option (Bool) := if (a0.size : Int) < 1 then (impl_nameOk.j0 k a0 true) else (impl_nameOk.j0 k a0 (decide ((a0.size : Int) > 6)))
set_option maxHeartbeats 8000000 in
set_option maxRecDepth 100000 in
theorem impl_nameOk.calls (k : Nat) (a0 : ByteArray) (r : Bool) (w : World) (h : impl_nameOk.f k a0 = some r) :
  Calls Tryd.prog 51 #[.string a0] w fun e w' => e = .returned (.bool r) ∧ Drawn0 w w' := by
 have H : (if (a0.size : Int) < 1 then (impl_nameOk.j0 k a0 true) else (impl_nameOk.j0 k a0 (decide ((a0.size : Int) > 6)))) = some r := h; clear h; have HC2 := Aside0.mk H; clear H
 go_enter Tryd.func51, Tryd.ntmps51
 go_upto_region 1 with (fail)
 go_cut [13] (fun v13 wc => ∃ (kq : Nat) (a3 : Bool), v13 = .bool a3 ∧ Aside0 (impl_nameOk.j0 kq a0 a3 = some r) ∧ Aside0 (kq ≤ k) ∧ Drawn0 w wc)
 case first =>
  have H := HC2.out; clear HC2
  by_cases c3 : (a0.size : Int) < 1
  ·
   rw [if_pos c3] at H
   have a2 : decide ((a0.size : Int) < 1) = true := decide_eq_true c3; have a6 : decide (a0.size < 1) = true := decide_eq_true (by omega); clear c3
   (first | rw [a2] | (simp only [i64_w, i32_w]; rw [a2]) | skip)
   have H' := Aside0.mk H; clear H
   go_wp2
   go_meet
   case rel => exact ⟨_, (true), (by first | rfl | (simp; done) | (simp [*]; done)), H', ⟨by first | omega | exact Nat.le_refl _⟩, by repeat (first | exact yaa _ | apply yab)⟩
  ·
   rw [if_neg c3] at H
   have a2 : decide ((a0.size : Int) < 1) = false := decide_eq_false c3; have a6 : decide (a0.size < 1) = false := decide_eq_false (by omega); clear c3
   (first | rw [a2] | (simp only [i64_w, i32_w]; rw [a2]) | skip)
   have H' := Aside0.mk H; clear H
   go_wp2
   go_meet
   case rel => exact ⟨_, (decide ((a0.size : Int) > 6)), (by first | rfl | (simp; done) | (simp [*]; done)), H', ⟨by first | omega | exact Nat.le_refl _⟩, by repeat (first | exact yaa _ | apply yab)⟩
 case rest =>
  clear HC2; (try clear p2); (try clear c3); (try clear a2); (try clear a6); obtain ⟨kq, a3, rfl, HA, HJ1, ⟨mc1, rfl⟩⟩ := hcut
  cases kq with
  | zero => exact absurd HA.out (by simp [impl_nameOk.j0])
  | succ kj1 =>
   have H := HA.out; clear HA
   simp only [impl_nameOk.j0] at H
   by_cases c4 : a3 = true
   ·
    subst c4
    rw [if_pos rfl] at H
    obtain rfl := Option.some.inj H
    go_wp2
    go_ret
    exact ⟨by first | rfl | (simp; done) | (simp [*]; done), by repeat (first | exact yaa _ | apply yab)⟩
   ·
    replace c4 := Bool.eq_false_iff.mpr c4
    subst c4
    rw [if_neg (show ¬ (false = true) by decide)] at H
    have H' := Aside0.mk H; clear H
    go_wp2
    (try simp only [Act.put, List.setIfInBounds_toArray, List.set_cons_zero, List.set_cons_succ])
    go_loopg [16] kj1 (fun kq v16 w' => ∃ (a1 : Int), v16 = .int .i64 a1 ∧ Aside0 (impl_nameOk.l0 kq a0 (a0.size : Int) a1 = some r) ∧ Aside0 (kq ≤ kj1) ∧ Drawn0 w w')
    case atStart => exact ⟨(0), (by first | rfl | (simp; done) | (simp [*]; done)), H', ⟨Nat.le_refl _⟩, by repeat (first | exact yaa _ | apply yab)⟩
    case round =>
     clear H'; (try clear c1); (try clear p2); (try clear c3); (try clear a2); (try clear a6); (try clear c4); (try clear p2); obtain ⟨a1, rfl, HA, HK2, ⟨m2, rfl⟩⟩ := hrel
     cases gk with
     | zero => exact absurd HA.out (by simp [impl_nameOk.l0])
     | succ k2 =>
      have H := HA.out; clear HA
      simp only [impl_nameOk.l0] at H
      by_cases c5 : a1 < (a0.size : Int)
      ·
       rw [if_pos c5] at H
       have b5 : decide (a1 < (a0.size : Int)) = true := decide_eq_true c5; clear c5
       by_cases c6 : 0 ≤ a1
       ·
        rw [if_pos c6] at H
        replace c6 := decide_eq_true c6
        by_cases c7 : a1 < (a0.size : Int)
        ·
         rw [if_pos c7] at H
         replace c7 := decide_eq_true c7
         by_cases c9 : (bt a0 a1) ≥ 97
         ·
          rw [if_pos c9] at H
          have b6 : decide (97 ≤ (bt a0 a1)) = true := decide_eq_true c9; clear c9
          by_cases c12 : (bt a0 a1) ≥ 48
          ·
           rw [if_pos c12] at H
           have a7 : decide (48 ≤ (bt a0 a1)) = true := decide_eq_true c12; clear c12
           by_cases c14 : ((bt a0 a1) ≤ 122)
           ·
            rw [if_pos c14] at H
            have a8 : decide ((bt a0 a1) ≤ 122) = true := decide_eq_true c14; clear c14; have H' := Aside0.mk H; clear H; have p8 : 0 ≤ (a1 : Int) := of_decide_eq_true (by assumption); have q8 : a1 < (a0.size : Int) := of_decide_eq_true (by assumption); have hx8 := bt_at a0 a1; replace p8 := eq_true p8; replace q8 := eq_true q8; have p10 : 0 ≤ (a1 : Int) := of_decide_eq_true (by assumption); have q10 : a1 < (a0.size : Int) := of_decide_eq_true (by assumption); have a4 := bt_at a0 a1; replace p10 := eq_true p10; replace q10 := eq_true q10; have p11 : 0 ≤ (a1 : Int) := of_decide_eq_true (by assumption); have q11 : a1 < (a0.size : Int) := of_decide_eq_true (by assumption); have a5 := bt_at a0 a1; replace p11 := eq_true p11; replace q11 := eq_true q11; have p13 : 0 ≤ (a1 : Int) := of_decide_eq_true (by assumption); have q13 : a1 < (a0.size : Int) := of_decide_eq_true (by assumption); have a9 := bt_at a0 a1; replace p13 := eq_true p13; replace q13 := eq_true q13
            go_wp2
            go_roundg k2
            case measure => have := HJ1.out; have := HK2.out; omega
            case rel => exact ⟨(wrap64 (a1 + 1)), (by first | rfl | (simp; done) | (simp [*]; done)), H', ⟨by have := HJ1.out; have := HK2.out; omega⟩, by repeat (first | exact yaa _ | apply yab)⟩
           ·
            rw [if_neg c14] at H
            have a8 : decide ((bt a0 a1) ≤ 122) = false := decide_eq_false c14; clear c14
            by_cases c15 : ((bt a0 a1) ≤ 57)
            ·
             rw [if_pos c15] at H
             have b0 : decide ((bt a0 a1) ≤ 57) = true := decide_eq_true c15; clear c15; have H' := Aside0.mk H; clear H; have p8 : 0 ≤ (a1 : Int) := of_decide_eq_true (by assumption); have q8 : a1 < (a0.size : Int) := of_decide_eq_true (by assumption); have hx8 := bt_at a0 a1; replace p8 := eq_true p8; replace q8 := eq_true q8; have p10 : 0 ≤ (a1 : Int) := of_decide_eq_true (by assumption); have q10 : a1 < (a0.size : Int) := of_decide_eq_true (by assumption); have a4 := bt_at a0 a1; replace p10 := eq_true p10; replace q10 := eq_true q10; have p11 : 0 ≤ (a1 : Int) := of_decide_eq_true (by assumption); have q11 : a1 < (a0.size : Int) := of_decide_eq_true (by assumption); have a5 := bt_at a0 a1; replace p11 := eq_true p11; replace q11 := eq_true q11; have p13 : 0 ≤ (a1 : Int) := of_decide_eq_true (by assumption); have q13 : a1 < (a0.size : Int) := of_decide_eq_true (by assumption); have a9 := bt_at a0 a1; replace p13 := eq_true p13; replace q13 := eq_true q13
             go_wp2
             go_roundg k2
             case measure => have := HJ1.out; have := HK2.out; omega
             case rel => exact ⟨(wrap64 (a1 + 1)), (by first | rfl | (simp; done) | (simp [*]; done)), H', ⟨by have := HJ1.out; have := HK2.out; omega⟩, by repeat (first | exact yaa _ | apply yab)⟩
            ·
             rw [if_neg c15] at H
             have b0 : decide ((bt a0 a1) ≤ 57) = false := decide_eq_false c15; clear c15; obtain rfl := Option.some.inj H; have p8 : 0 ≤ (a1 : Int) := of_decide_eq_true (by assumption); have q8 : a1 < (a0.size : Int) := of_decide_eq_true (by assumption); have hx8 := bt_at a0 a1; replace p8 := eq_true p8; replace q8 := eq_true q8; have p10 : 0 ≤ (a1 : Int) := of_decide_eq_true (by assumption); have q10 : a1 < (a0.size : Int) := of_decide_eq_true (by assumption); have a4 := bt_at a0 a1; replace p10 := eq_true p10; replace q10 := eq_true q10; have p11 : 0 ≤ (a1 : Int) := of_decide_eq_true (by assumption); have q11 : a1 < (a0.size : Int) := of_decide_eq_true (by assumption); have a5 := bt_at a0 a1; replace p11 := eq_true p11; replace q11 := eq_true q11; have p13 : 0 ≤ (a1 : Int) := of_decide_eq_true (by assumption); have q13 : a1 < (a0.size : Int) := of_decide_eq_true (by assumption); have a9 := bt_at a0 a1; replace p13 := eq_true p13; replace q13 := eq_true q13
             go_wp2
             go_ret
             exact ⟨by first | rfl | (simp; done) | (simp [*]; done), by repeat (first | exact yaa _ | apply yab)⟩
          ·
           rw [if_neg c12] at H
           have a7 : decide (48 ≤ (bt a0 a1)) = false := decide_eq_false c12; clear c12
           by_cases c16 : ((bt a0 a1) ≤ 122)
           ·
            rw [if_pos c16] at H
            have b1 : decide ((bt a0 a1) ≤ 122) = true := decide_eq_true c16; clear c16; have H' := Aside0.mk H; clear H; have p8 : 0 ≤ (a1 : Int) := of_decide_eq_true (by assumption); have q8 : a1 < (a0.size : Int) := of_decide_eq_true (by assumption); have hx8 := bt_at a0 a1; replace p8 := eq_true p8; replace q8 := eq_true q8; have p10 : 0 ≤ (a1 : Int) := of_decide_eq_true (by assumption); have q10 : a1 < (a0.size : Int) := of_decide_eq_true (by assumption); have a4 := bt_at a0 a1; replace p10 := eq_true p10; replace q10 := eq_true q10; have p11 : 0 ≤ (a1 : Int) := of_decide_eq_true (by assumption); have q11 : a1 < (a0.size : Int) := of_decide_eq_true (by assumption); have a5 := bt_at a0 a1; replace p11 := eq_true p11; replace q11 := eq_true q11
            go_wp2
            go_roundg k2
            case measure => have := HJ1.out; have := HK2.out; omega
            case rel => exact ⟨(wrap64 (a1 + 1)), (by first | rfl | (simp; done) | (simp [*]; done)), H', ⟨by have := HJ1.out; have := HK2.out; omega⟩, by repeat (first | exact yaa _ | apply yab)⟩
           ·
            rw [if_neg c16] at H
            have b1 : decide ((bt a0 a1) ≤ 122) = false := decide_eq_false c16; clear c16; obtain rfl := Option.some.inj H; have p8 : 0 ≤ (a1 : Int) := of_decide_eq_true (by assumption); have q8 : a1 < (a0.size : Int) := of_decide_eq_true (by assumption); have hx8 := bt_at a0 a1; replace p8 := eq_true p8; replace q8 := eq_true q8; have p10 : 0 ≤ (a1 : Int) := of_decide_eq_true (by assumption); have q10 : a1 < (a0.size : Int) := of_decide_eq_true (by assumption); have a4 := bt_at a0 a1; replace p10 := eq_true p10; replace q10 := eq_true q10; have p11 : 0 ≤ (a1 : Int) := of_decide_eq_true (by assumption); have q11 : a1 < (a0.size : Int) := of_decide_eq_true (by assumption); have a5 := bt_at a0 a1; replace p11 := eq_true p11; replace q11 := eq_true q11
            go_wp2
            go_ret
            exact ⟨by first | rfl | (simp; done) | (simp [*]; done), by repeat (first | exact yaa _ | apply yab)⟩
         ·
          rw [if_neg c9] at H
          have b6 : decide (97 ≤ (bt a0 a1)) = false := decide_eq_false c9; clear c9
          by_cases c18 : (bt a0 a1) ≥ 48
          ·
           rw [if_pos c18] at H
           have b2 : decide (48 ≤ (bt a0 a1)) = true := decide_eq_true c18; clear c18
           by_cases c20 : ((bt a0 a1) ≤ 57)
           ·
            rw [if_pos c20] at H
            have b3 : decide ((bt a0 a1) ≤ 57) = true := decide_eq_true c20; clear c20; have H' := Aside0.mk H; clear H; have p8 : 0 ≤ (a1 : Int) := of_decide_eq_true (by assumption); have q8 : a1 < (a0.size : Int) := of_decide_eq_true (by assumption); have hx8 := bt_at a0 a1; replace p8 := eq_true p8; replace q8 := eq_true q8; have p17 : 0 ≤ (a1 : Int) := of_decide_eq_true (by assumption); have q17 : a1 < (a0.size : Int) := of_decide_eq_true (by assumption); have b4 := bt_at a0 a1; replace p17 := eq_true p17; replace q17 := eq_true q17; have p19 : 0 ≤ (a1 : Int) := of_decide_eq_true (by assumption); have q19 : a1 < (a0.size : Int) := of_decide_eq_true (by assumption); have b7 := bt_at a0 a1; replace p19 := eq_true p19; replace q19 := eq_true q19
            go_wp2
            go_roundg k2
            case measure => have := HJ1.out; have := HK2.out; omega
            case rel => exact ⟨(wrap64 (a1 + 1)), (by first | rfl | (simp; done) | (simp [*]; done)), H', ⟨by have := HJ1.out; have := HK2.out; omega⟩, by repeat (first | exact yaa _ | apply yab)⟩
           ·
            rw [if_neg c20] at H
            have b3 : decide ((bt a0 a1) ≤ 57) = false := decide_eq_false c20; clear c20; obtain rfl := Option.some.inj H; have p8 : 0 ≤ (a1 : Int) := of_decide_eq_true (by assumption); have q8 : a1 < (a0.size : Int) := of_decide_eq_true (by assumption); have hx8 := bt_at a0 a1; replace p8 := eq_true p8; replace q8 := eq_true q8; have p17 : 0 ≤ (a1 : Int) := of_decide_eq_true (by assumption); have q17 : a1 < (a0.size : Int) := of_decide_eq_true (by assumption); have b4 := bt_at a0 a1; replace p17 := eq_true p17; replace q17 := eq_true q17; have p19 : 0 ≤ (a1 : Int) := of_decide_eq_true (by assumption); have q19 : a1 < (a0.size : Int) := of_decide_eq_true (by assumption); have b7 := bt_at a0 a1; replace p19 := eq_true p19; replace q19 := eq_true q19
            go_wp2
            go_ret
            exact ⟨by first | rfl | (simp; done) | (simp [*]; done), by repeat (first | exact yaa _ | apply yab)⟩
          ·
           rw [if_neg c18] at H
           have b2 : decide (48 ≤ (bt a0 a1)) = false := decide_eq_false c18; clear c18; obtain rfl := Option.some.inj H; have p8 : 0 ≤ (a1 : Int) := of_decide_eq_true (by assumption); have q8 : a1 < (a0.size : Int) := of_decide_eq_true (by assumption); have hx8 := bt_at a0 a1; replace p8 := eq_true p8; replace q8 := eq_true q8; have p17 : 0 ≤ (a1 : Int) := of_decide_eq_true (by assumption); have q17 : a1 < (a0.size : Int) := of_decide_eq_true (by assumption); have b4 := bt_at a0 a1; replace p17 := eq_true p17; replace q17 := eq_true q17
           go_wp2
           go_ret
           exact ⟨by first | rfl | (simp; done) | (simp [*]; done), by repeat (first | exact yaa _ | apply yab)⟩
        ·
         rw [if_neg c7] at H
         exact absurd H (by simp)
       ·
        rw [if_neg c6] at H
        exact absurd H (by simp)
      ·
       rw [if_neg c5] at H
       have b5 : decide (a1 < (a0.size : Int)) = false := decide_eq_false c5; clear c5; obtain rfl := Option.some.inj H
       go_wp2
       go_ret
       exact ⟨by first | rfl | (simp; done) | (simp [*]; done), by repeat (first | exact yaa _ | apply yab)⟩
end
section
open Go.Proofs.YtmbkhindhndccaaDoorW.PrintWords.Aside0 renaming mk → yaa

def impl_AskOk.f (k : Nat) (l0_0 : List (S59)) (a0_1 : ByteArray) (a0_2 : Int) : Option (Bool) := (impl_opsOk.f k l0_0).bind fun t102 => (if t102 = true then ((impl_nameOk.f k a0_1).bind fun t103 => (if t103 = true then ((impl_within.f a0_2 0 9999).bind fun t104 => (some t104)) else (some false))) else (some false))
set_option maxHeartbeats 8000000 in
set_option maxRecDepth 100000 in
theorem impl_AskOk.calls (k : Nat) (A0_0 : Option Addr) (c0_0 : Nat) (l0_0 : List (S59)) (a0_1 : ByteArray) (a0_2 : Int) (r : Bool) (w : World) (hr0_0 : Kd.C k59 w A0_0 l0_0.length l0_0) (hc0_0 : l0_0.length ≤ c0_0) (h : impl_AskOk.f k l0_0 a0_1 a0_2 = some r) :
  Calls Tryd.prog 31 #[.agg #[.slice A0_0 l0_0.length c0_0, .string a0_1, .int .i64 a0_2]] w fun e w' => e = .returned (.bool r) ∧ Below w.heap.size w w' := by
 have hu31 := Tryd.underlying31; have HR0_0 := yaa hr0_0; have HC0_0 := yaa hc0_0; clear hr0_0 hc0_0; have HB := yaa (Below.refl w.heap.size w); have H : ((impl_opsOk.f k l0_0).bind fun a9 => (if a9 = true then ((impl_nameOk.f k a0_1).bind fun b0 => (if b0 = true then ((impl_within.f a0_2 0 9999).bind fun b1 => (some b1)) else (some false))) else (some false))) = some r := h; clear h; obtain ⟨a9, A2, H⟩ := bindA H; (try dsimp only at H)
 by_cases c3 : a9 = true
 ·
  subst c3
  rw [if_pos rfl] at H
  obtain ⟨b0, A4, H⟩ := bindA H; (try dsimp only at H)
  by_cases c5 : b0 = true
  ·
   subst c5
   rw [if_pos rfl] at H
   obtain ⟨b1, A6, H⟩ := bindA H; (try dsimp only at H); obtain rfl := Option.some.inj H
   go_enter Tryd.func31, Tryd.ntmps31
   go_wp2_with (first | ((with_reducible refine gd_ 1 rfl ?_); refine bx_ 1 rfl #[.slice A0_0 l0_0.length c0_0, .string a0_1, .int .i64 a0_2] 31 ?_; intro a4 hg w7 hbox hb; have a3 := yaa (hbox); have a5 := yaa ((by rw [hg]; exact (below_size (upH HB.out)) : w.heap.size ≤ a4)); replace HB := yaa (below_step (upH HB.out) hb); have a8 := a5; clear hb hbox hg; obtain ⟨d8, d9, e0⟩ := cc3_ a3.out; obtain ⟨e1, e2⟩ := cf2_ a3.out; have e3 := blk_frozen a3.out 2) | ((with_reducible refine gc_ 50 rfl ?_); refine gl_ (some 5) rfl Tryd.func50 #[.slice A0_0 l0_0.length c0_0] ?_; (with_reducible refine (impl_opsOk.calls k _ _ l0_0 true _ ?side1 ?side2 A2.out).mono ?_); (case side1 => repeat (first | exact (Kd.C_below HR0_0.out HB.out) | (with_reducible refine Kd.C_alloc ?_ _) | (with_reducible refine Kd.C_drewN ?_ _) | (with_reducible refine Kd.C_drew ?_))); (case side2 => exact HC0_0.out); rintro e w9 ⟨rfl, hb⟩; refine ⟨_, rfl, ?_⟩; replace a3 := yaa (blk_below (upB a3.out) hb); replace HB := yaa (below_step (by repeat (with_reducible first | exact HB.out | apply below_alloc | apply pw_below_drewN | apply below_drew1 | refine below_set ?_ (Aside0.out ‹_›))) hb); (try clear hb); obtain ⟨b2, b3, b4⟩ := cc3_ a3.out; obtain ⟨b5, b6⟩ := cf2_ a3.out; have b7 := blk_frozen a3.out 2) | (go_at_call 51; (with_reducible refine (impl_nameOk.calls k a0_1 true _ A4.out).mono ?_); rintro e w' ⟨rfl, ⟨nd, rfl⟩⟩) | (go_at_call 52; (with_reducible refine (impl_within.calls a0_2 0 9999 b1 _ A6.out).mono ?_); rintro e w' ⟨rfl, ⟨nd, rfl⟩⟩))
   go_ret
   exact ⟨by first | rfl | (simp [*, errW_none, errW_some] <;> rfl), by repeat (with_reducible first | exact HB.out | apply below_alloc | apply pw_below_drewN | apply below_drew1 | refine below_set ?_ (Aside0.out ‹_›))⟩
  ·
   replace c5 := Bool.eq_false_iff.mpr c5
   subst c5
   rw [if_neg (show ¬ (false = true) by decide)] at H
   obtain rfl := Option.some.inj H
   go_enter Tryd.func31, Tryd.ntmps31
   go_wp2_with (first | ((with_reducible refine gd_ 1 rfl ?_); refine bx_ 1 rfl #[.slice A0_0 l0_0.length c0_0, .string a0_1, .int .i64 a0_2] 31 ?_; intro a4 hg w11 hbox hb; have a3 := yaa (hbox); have a5 := yaa ((by rw [hg]; exact (below_size (upH HB.out)) : w.heap.size ≤ a4)); replace HB := yaa (below_step (upH HB.out) hb); have a8 := a5; clear hb hbox hg; obtain ⟨b8, b9, c0⟩ := cc3_ a3.out; obtain ⟨c1, c2⟩ := cf2_ a3.out; have c4 := blk_frozen a3.out 2) | ((with_reducible refine gc_ 50 rfl ?_); refine gl_ (some 5) rfl Tryd.func50 #[.slice A0_0 l0_0.length c0_0] ?_; (with_reducible refine (impl_opsOk.calls k _ _ l0_0 true _ ?side1 ?side2 A2.out).mono ?_); (case side1 => repeat (first | exact (Kd.C_below HR0_0.out HB.out) | (with_reducible refine Kd.C_alloc ?_ _) | (with_reducible refine Kd.C_drewN ?_ _) | (with_reducible refine Kd.C_drew ?_))); (case side2 => exact HC0_0.out); rintro e w13 ⟨rfl, hb⟩; refine ⟨_, rfl, ?_⟩; replace a3 := yaa (blk_below (upB a3.out) hb); replace HB := yaa (below_step (by repeat (with_reducible first | exact HB.out | apply below_alloc | apply pw_below_drewN | apply below_drew1 | refine below_set ?_ (Aside0.out ‹_›))) hb); (try clear hb); obtain ⟨c6, c7, c8⟩ := cc3_ a3.out; obtain ⟨c9, d0⟩ := cf2_ a3.out; have d1 := blk_frozen a3.out 2) | (go_at_call 51; (with_reducible refine (impl_nameOk.calls k a0_1 false _ A4.out).mono ?_); rintro e w' ⟨rfl, ⟨nd, rfl⟩⟩))
   go_ret
   exact ⟨by first | rfl | (simp [*, errW_none, errW_some] <;> rfl), by repeat (with_reducible first | exact HB.out | apply below_alloc | apply pw_below_drewN | apply below_drew1 | refine below_set ?_ (Aside0.out ‹_›))⟩
 ·
  replace c3 := Bool.eq_false_iff.mpr c3
  subst c3
  rw [if_neg (show ¬ (false = true) by decide)] at H
  obtain rfl := Option.some.inj H
  go_enter Tryd.func31, Tryd.ntmps31
  go_wp2_with (first | ((with_reducible refine gd_ 1 rfl ?_); refine bx_ 1 rfl #[.slice A0_0 l0_0.length c0_0, .string a0_1, .int .i64 a0_2] 31 ?_; intro a4 hg w15 hbox hb; have a3 := yaa (hbox); have a5 := yaa ((by rw [hg]; exact (below_size (upH HB.out)) : w.heap.size ≤ a4)); replace HB := yaa (below_step (upH HB.out) hb); have a8 := a5; clear hb hbox hg; obtain ⟨d2, d3, d4⟩ := cc3_ a3.out; obtain ⟨d5, d6⟩ := cf2_ a3.out; have d7 := blk_frozen a3.out 2) | ((with_reducible refine gc_ 50 rfl ?_); refine gl_ (some 5) rfl Tryd.func50 #[.slice A0_0 l0_0.length c0_0] ?_; (with_reducible refine (impl_opsOk.calls k _ _ l0_0 false _ ?side1 ?side2 A2.out).mono ?_); (case side1 => repeat (first | exact (Kd.C_below HR0_0.out HB.out) | (with_reducible refine Kd.C_alloc ?_ _) | (with_reducible refine Kd.C_drewN ?_ _) | (with_reducible refine Kd.C_drew ?_))); (case side2 => exact HC0_0.out); rintro e w17 ⟨rfl, hb⟩; refine ⟨_, rfl, ?_⟩; replace a3 := yaa (blk_below (upB a3.out) hb); replace HB := yaa (below_step (by repeat (with_reducible first | exact HB.out | apply below_alloc | apply pw_below_drewN | apply below_drew1 | refine below_set ?_ (Aside0.out ‹_›))) hb); (try clear hb)))
  go_ret
  exact ⟨by first | rfl | (simp [*, errW_none, errW_some] <;> rfl), by repeat (with_reducible first | exact HB.out | apply below_alloc | apply pw_below_drewN | apply below_drew1 | refine below_set ?_ (Aside0.out ‹_›))⟩
end
section
/-- A state of type 70 at block g of W; what its slices lead to came in by w0. -/
def IsS70 (w0 W : World) (g : Nat) (f0 : List Int) (f1 : Int) : Prop := ∃ A0 c0, W.heap[g]? = some (.cells #[.slice A0 f0.length c0, .int .i64 f1] 70 (0, 0)) ∧ w0.heap.size ≤ g ∧ Kd.C (Kd.int .u8) w0 A0 f0.length f0
theorem IsS70.grown {w0 W : World} {g : Nat} {f0 : List Int} {f1 : Int} {W1 : World} {row : Option Nat} (h : IsS70 w0 W g f0 f1) (hw : W.grownBy W1 row) (hne : some g ≠ row) : IsS70 w0 W1 g f0 f1 := by
  obtain ⟨A0, c0, hb, hg, hr0⟩ := h
  exact ⟨A0, c0, blk_grown hb hw hne, hg, hr0⟩
theorem IsS70.kept {w0 W : World} {g : Nat} {f0 : List Int} {f1 : Int} {W1 : World} {S : Nat → Prop} (h : IsS70 w0 W g f0 f1) (hk : Kept W W1 S) (hne : ¬ S g) : IsS70 w0 W1 g f0 f1 := by
  obtain ⟨A0, c0, hb, hg, hr0⟩ := h
  exact ⟨A0, c0, blk_kept hb hk hne, hg, hr0⟩
theorem IsS70.below {w0 W : World} {g : Nat} {f0 : List Int} {f1 : Int} {W1 : World} (h : IsS70 w0 W g f0 f1) (hw : Below W.heap.size W W1) : IsS70 w0 W1 g f0 f1 := h.grown (grown_of_below hw none) (by simp)
theorem IsS70.alloc {w0 W : World} {g : Nat} {f0 : List Int} {f1 : Int} (h : IsS70 w0 W g f0 f1) (o : Obj) : IsS70 w0 (W.alloc o) g f0 f1 := h.below (below_alloc (Below.refl _ _) o)
theorem IsS70.drewN {w0 W : World} {g : Nat} {f0 : List Int} {f1 : Int} (h : IsS70 w0 W g f0 f1) (m : Nat) : IsS70 w0 (W.drewN m) g f0 f1 := h
theorem IsS70.drew {w0 W : World} {g : Nat} {f0 : List Int} {f1 : Int} (h : IsS70 w0 W g f0 f1) : IsS70 w0 W.drew g f0 f1 := h
theorem IsS70.at_ {w0 W : World} {g : Nat} {f0 : List Int} {f1 : Int} {w' : World} {m : Nat} (hq : W.drewN m = w') (h : IsS70 w0 W g f0 f1) : IsS70 w0 w' g f0 f1 := by subst hq; exact IsS70.drewN h m
theorem IsS70.apart {w0 W : World} {g : Nat} {f0 : List Int} {f1 : Int} {α : Type} {d : Kd α} {e : Nat} {base : Nat} {ok : Nat → Prop} {v : Value} {xs : List α} (h : IsS70 w0 W g f0 f1) (ho : d.R e W base ok v xs) (ht : ∀ q, q ∈ e :: d.E → q ≠ 70) : d.R e W base (fun k => ok k ∧ k ≠ g) v xs := by
  obtain ⟨A0, c0, hb, hg, hr0⟩ := h
  exact Kd.R_types ho hb ht
theorem IsS70.own_ne {w0 W : World} {g : Nat} {f0 : List Int} {f1 : Int} {α : Type} {d : Kd α} {e : Nat} {base : Nat} {ok : Nat → Prop} {v : Value} {xs : List α} (h : IsS70 w0 W g f0 f1) (ho : d.R e W base ok v xs) (ht : e ≠ 70) : some g ≠ v.ownBlock := by
  obtain ⟨A0, c0, hb, hg, hr0⟩ := h
  exact Kd.R_ne ho hb ht
theorem IsS70.lt {w0 W : World} {g : Nat} {f0 : List Int} {f1 : Int} (h : IsS70 w0 W g f0 f1) : g < W.heap.size := by
  obtain ⟨A0, c0, hb, hg, hr0⟩ := h
  exact blk_lt hb
theorem IsS70.ge {w0 W : World} {g : Nat} {f0 : List Int} {f1 : Int} (h : IsS70 w0 W g f0 f1) : w0.heap.size ≤ g := by
  obtain ⟨A0, c0, hb, hg, hr0⟩ := h
  exact hg
theorem IsS70.ne_blk {w0 W : World} {g : Nat} {f0 : List Int} {f1 : Int} {a : Nat} {cs : Array Value} {t : TypeId} {fr : Nat × Nat} (h : IsS70 w0 W g f0 f1) (hb2 : W.heap[a]? = some (.cells cs t fr)) (ht : t ≠ 70) : g ≠ a := by
  obtain ⟨A0, c0, hb, hg, hr0⟩ := h
  rintro rfl
  rw [hb] at hb2
  injection hb2 with hb2
  injection hb2 with _ ht2
  exact ht ht2.symm
theorem IsS70.far {w0 W : World} {g : Nat} {f0 : List Int} {f1 : Int} {p : Addr} (h : IsS70 w0 W g f0 f1) (hne : g ≠ p.block) (u : Value) : IsS70 w0 (W.setCell p u) g f0 f1 := by
  obtain ⟨A0, c0, hb, hg, hr0⟩ := h
  exact ⟨A0, c0, blk_far hb hne u, hg, hr0⟩
theorem cellS70_0 {W : World} {g : Nat} {A0 : Option Addr} {c0 : Nat} {f0 : List Int} {f1 : Int} (h : W.heap[g]? = some (.cells #[.slice A0 f0.length c0, .int .i64 f1] 70 (0, 0))) : W.cell? ⟨g, 0, none⟩ = some (.slice A0 f0.length c0) := (blk_cell h 0).trans rfl
theorem cellS70_1 {W : World} {g : Nat} {A0 : Option Addr} {c0 : Nat} {f0 : List Int} {f1 : Int} (h : W.heap[g]? = some (.cells #[.slice A0 f0.length c0, .int .i64 f1] 70 (0, 0))) : W.cell? ⟨g, 1, none⟩ = some (.int .i64 f1) := (blk_cell h 1).trans rfl
theorem IsS70.set_1 {w0 W : World} {g : Nat} {f0 : List Int} {f1 : Int} (h : IsS70 w0 W g f0 f1) (x : Int) : IsS70 w0 (W.setCell ⟨g, 1, none⟩ (.int .i64 x)) g f0 x := by
  obtain ⟨A0, c0, hb, hg, hr0⟩ := h
  exact ⟨A0, c0, by simpa using blk_set hb 1 (.int .i64 x), hg, hr0⟩
theorem IsS70.new (w0 W : World) (A0 : Option Addr) (c0 : Nat) (f0 : List Int) (f1 : Int) (hB : Below w0.heap.size w0 W) (hr0 : Kd.C (Kd.int .u8) w0 A0 f0.length f0) : IsS70 w0 (W.alloc (.cells #[.slice A0 f0.length c0, .int .i64 f1] 70)) W.heap.size f0 f1 := ⟨A0, c0, by simpa using heap_alloc_new W _, hB.size, hr0⟩

open Go.Proofs.YtmbkhindhndccaaDoorW.PrintWords.Aside0 renaming mk → yaa

def spec_l20Open.f (l0 : List Int) : Option (List Int × Int) := if (l0.length : Int) > 2000 then (if 2000 ≤ (l0.length : Int) then (some (l0.take 2000, 0)) else (none)) else (some (l0, 0))
set_option maxHeartbeats 8000000 in
set_option maxRecDepth 100000 in
theorem spec_l20Open.calls (A0 : Option Addr) (c0 : Nat) (l0 : List Int) (r1 : List Int) (r2 : Int) (w0 w : World) (hB : Below w0.heap.size w0 w) (hr0 : Kd.C (Kd.int .u8) w0 A0 l0.length l0) (hc0 : l0.length ≤ c0) (h : spec_l20Open.f l0 = some (r1, r2)) :
  Calls Tryd.prog 24 #[.slice A0 l0.length c0] w fun e w' => ∃ g_ : Nat, e = .returned (.pointer (some ⟨g_, 0, none⟩)) ∧ IsS70 w0 w' g_ r1 r2 ∧ Below w0.heap.size w0 w' ∧ Below w.heap.size w w' := by
 have hu70 := Tryd.underlying70; have HR0 := yaa hr0; have HC0 := yaa hc0; clear hr0 hc0; have HBW := yaa (Below.refl w.heap.size w); have HW0 := yaa hB.size; have HB := yaa hB; clear hB; have H : (if (l0.length : Int) > 2000 then (if 2000 ≤ (l0.length : Int) then (some (l0.take 2000, 0)) else (none)) else (some (l0, 0))) = some (r1, r2) := h; clear h
 by_cases c2 : (l0.length : Int) > 2000
 ·
  rw [if_pos c2] at H
  have a7 : decide (2000 < (l0.length : Int)) = true := decide_eq_true c2; have a8 : decide (2000 < l0.length) = true := decide_eq_true (by omega); clear c2
  by_cases c3 : 2000 ≤ (l0.length : Int)
  ·
   rw [if_pos c3] at H
   have b1 := eq_true c3; replace c3 := decide_eq_true c3
   simp only [Option.some.injEq, Prod.mk.injEq] at H
   obtain ⟨rfl, rfl⟩ := H; obtain ⟨i04, hi04, _, a2, _⟩ := info_parts info5; obtain ⟨hcut4, hA4, hC4⟩ := print_take_of (P := Tryd.prog) (Value.int .u8) 0 22 5 .i64 Tryd.underlying22 hi04 a2 A0 c0 l0 2000 (by omega) (of_decide_eq_true (by assumption)) HC0.out; have HR101 := yaa (Kd.C_of_reads (h1 := fun _ => rfl) (hA4 _ (Kd.reads_of_C HR0.out))); have HC101 := yaa hC4; clear hA4 hC4 hi04 a2
   go_enter Tryd.func24, Tryd.ntmps24
   go_wp2_with (first | ((with_reducible refine gd_ 10 rfl ?_); refine bx_ 10 rfl #[.slice A0 (l0.take 2000).length c0, .int .i64 0] 70 ?_; intro a0 hg w5 hbox hb; replace HB := yaa (below_step (upH HB.out) hb); have a3 := yaa (hbox); have a9 := yaa ((by rw [hg]; exact (below_size (upH HBW.out)) : w.heap.size ≤ a0)); have a4 := yaa ((Nat.le_trans HW0.out (by rw [hg]; exact (below_size (upH HBW.out)) : w.heap.size ≤ a0) : w0.heap.size ≤ a0)); replace HBW := yaa (below_step HBW.out hb); clear hb hbox hg))
   go_ret
   exact ⟨_, rfl, (show IsS70 w0 _ a0 (l0.take 2000) 0 from ⟨_, _, by exact upB a3.out, a4.out, HR101.out⟩), by repeat (with_reducible first | exact HB.out | apply below_alloc | apply pw_below_drewN | apply below_drew1 | refine below_set ?_ (Aside0.out ‹_›)), by repeat (with_reducible first | exact HBW.out | apply below_alloc | apply pw_below_drewN | apply below_drew1 | refine below_set ?_ (Aside0.out ‹_›))⟩
  ·
   rw [if_neg c3] at H
   exact absurd H (by simp)
 ·
  rw [if_neg c2] at H
  have a7 : decide (2000 < (l0.length : Int)) = false := decide_eq_false c2; have a8 : decide (2000 < l0.length) = false := decide_eq_false (by omega); clear c2
  simp only [Option.some.injEq, Prod.mk.injEq] at H
  obtain ⟨rfl, rfl⟩ := H
  go_enter Tryd.func24, Tryd.ntmps24
  go_wp2_with (first | ((with_reducible refine gd_ 10 rfl ?_); refine bx_ 10 rfl #[.slice A0 l0.length c0, .int .i64 0] 70 ?_; intro a1 hg w6 hbox hb; replace HB := yaa (below_step (upH HB.out) hb); have a5 := yaa (hbox); have b0 := yaa ((by rw [hg]; exact (below_size (upH HBW.out)) : w.heap.size ≤ a1)); have a6 := yaa ((Nat.le_trans HW0.out (by rw [hg]; exact (below_size (upH HBW.out)) : w.heap.size ≤ a1) : w0.heap.size ≤ a1)); replace HBW := yaa (below_step HBW.out hb); clear hb hbox hg))
  go_ret
  exact ⟨_, rfl, (show IsS70 w0 _ a1 l0 0 from ⟨_, _, by exact upB a5.out, a6.out, HR0.out⟩), by repeat (with_reducible first | exact HB.out | apply below_alloc | apply pw_below_drewN | apply below_drew1 | refine below_set ?_ (Aside0.out ‹_›)), by repeat (with_reducible first | exact HBW.out | apply below_alloc | apply pw_below_drewN | apply below_drew1 | refine below_set ?_ (Aside0.out ‹_›))⟩
end
section
def spec_l20Rd_pick.j0 : Nat → Int → Bool → List Int → Int → Option (Int × Int)
 | 0, _, _, _, _ => none
 | k + 1, x1, x24, x1000, x1001 => if x24 = true then (some (0, x1001)) else (if (wrap64 (x1001 - 1)) < (x1000.length : Int) then (if 0 ≤ (wrap64 (x1001 - 1)) then (if x1 = 0 then (none) else (some (Int.tmod (wrap64 (rd x1000 (wrap64 (x1001 - 1)))) x1, x1001))) else (none)) else (if (x1000.length : Int) = 0 then (none) else (if 0 ≤ (Int.tmod (wrap64 (x1001 - 1)) (x1000.length : Int)) then (if (Int.tmod (wrap64 (x1001 - 1)) (x1000.length : Int)) < (x1000.length : Int) then (if 0 ≤ (Int.tmod (wrap64 ((wrap64 ((wrap64 (x1001 - 1)) * 7)) + 3)) (x1000.length : Int)) then (if (Int.tmod (wrap64 ((wrap64 ((wrap64 (x1001 - 1)) * 7)) + 3)) (x1000.length : Int)) < (x1000.length : Int) then (if x1 = 0 then (none) else (some (Int.tmod (Go.bits .xor .i64 (wrap64 ((wrap64 ((wrap64 ((wrap64 ((wrap64 (rd x1000 (Int.tmod (wrap64 (x1001 - 1)) (x1000.length : Int)))) * 131)) + (wrap64 ((wrap64 (rd x1000 (Int.tmod (wrap64 ((wrap64 ((wrap64 (x1001 - 1)) * 7)) + 3)) (x1000.length : Int)))) * 1117)))) + (wrap64 ((wrap64 (x1001 - 1)) * 29)))) + (wrap64 ((wrap64 (Int.tdiv (wrap64 (x1001 - 1)) (x1000.length : Int))) * 53)))) (wrap64 (Int.tdiv (wrap64 ((wrap64 ((wrap64 ((wrap64 ((wrap64 (rd x1000 (Int.tmod (wrap64 (x1001 - 1)) (x1000.length : Int)))) * 131)) + (wrap64 ((wrap64 (rd x1000 (Int.tmod (wrap64 ((wrap64 ((wrap64 (x1001 - 1)) * 7)) + 3)) (x1000.length : Int)))) * 1117)))) + (wrap64 ((wrap64 (x1001 - 1)) * 29)))) + (wrap64 ((wrap64 (Int.tdiv (wrap64 (x1001 - 1)) (x1000.length : Int))) * 53)))) 64))) x1, x1001))) else (none)) else (none)) else (none)) else (none))))
def spec_l20Rd_pick.f (k : Nat) (s0_0 : List Int) (s0_1 : Int) (a1 : Int) : Option (Int × Int) := if a1 < 1 then (spec_l20Rd_pick.j0 k a1 true s0_0 (wrap64 (s0_1 + 1))) else (spec_l20Rd_pick.j0 k a1 ((s0_0.length : Int) == 0) s0_0 (wrap64 (s0_1 + 1)))
set_option maxHeartbeats 8000000 in
set_option maxRecDepth 100000 in
theorem spec_l20Rd_pick.calls (k : Nat) (g : Nat) (s0_0 : List Int) (s0_1 : Int) (a1 : Int) (r1 : Int) (r2 : Int) (w0 w : World) (hI : IsS70 w0 w g s0_0 s0_1) (hB : Below w0.heap.size w0 w) (h : spec_l20Rd_pick.f k s0_0 s0_1 a1 = some (r1, r2)) :
  Calls Tryd.prog 43 #[.pointer (some ⟨g, 0, none⟩), .int .i64 a1] w fun e w' => e = .returned (.int .i64 r1) ∧ IsS70 w0 w' g s0_0 r2 ∧ Below w0.heap.size w0 w' ∧ KeepBut w w' g none := by
 have HI0 := Aside0.mk hI; have HK := Aside0.mk (KeepBut.refl w g none); have HL := Aside0.mk hB.size; clear hI; have HW0 := Aside0.mk hB.size; have HB := Aside0.mk hB; clear hB; have H : (if a1 < 1 then (spec_l20Rd_pick.j0 k a1 true s0_0 (wrap64 (s0_1 + 1))) else (spec_l20Rd_pick.j0 k a1 ((s0_0.length : Int) == 0) s0_0 (wrap64 (s0_1 + 1)))) = some (r1, r2) := h; clear h; have HC3 := Aside0.mk H; clear H; obtain ⟨d1, d2, HGz4, hgz4, HSz4_0⟩ := HI0.out; have b0 := cellS70_0 HGz4; have b1 := cellS70_1 HGz4; have b2 := blk_frozen HGz4 1; clear HGz4 hgz4
 go_enter Tryd.func43, Tryd.ntmps43
 go_upto_region 2 with (fail)
 repeat (go_quiet (fail); go_upto_region 2 with (fail))
 go_cut [24] (fun v24 wc => ∃ (kq : Nat) (a5 : Bool), v24 = .bool a5 ∧ Aside0 (spec_l20Rd_pick.j0 kq a1 a5 s0_0 (wrap64 (s0_1 + 1)) = some (r1, r2)) ∧ Aside0 (kq ≤ k) ∧ Aside0 (IsS70 w0 wc g s0_0 (wrap64 (s0_1 + 1))) ∧ Aside0 (KeepBut w wc g none) ∧ Aside0 (Below w0.heap.size w0 wc))
 case first =>
  have H := HC3.out; clear HC3
  by_cases c5 : a1 < 1
  ·
   rw [if_pos c5] at H
   have a9 : decide (a1 < 1) = true := decide_eq_true c5; clear c5
   (first | rw [a9] | (simp only [i64_w, i32_w]; rw [a9]) | skip)
   have H' := Aside0.mk H; clear H
   go_wp2
   repeat (go_quiet (fail); try go_wp2)
   go_meet
   case rel => exact ⟨_, (true), (by first | rfl | (simp; done) | (simp [*]; done)), H', ⟨by first | omega | exact Nat.le_refl _⟩, ⟨by repeat (with_reducible first | exact HI0.out | apply IsS70.alloc | apply IsS70.drewN | apply IsS70.drew | apply IsS70.set_1)⟩, ⟨by repeat (with_reducible first | exact HK.out | apply KeepBut.set_ | apply keep_drewN | apply keep_drew | apply keep_alloc)⟩, ⟨by repeat (with_reducible first | exact HB.out | apply below_alloc | apply pw_below_drewN | apply below_drew1 | refine below_set ?_ (IsS70.ge HI0.out))⟩⟩
  ·
   rw [if_neg c5] at H
   have a9 : decide (a1 < 1) = false := decide_eq_false c5; clear c5
   (first | rw [a9] | (simp only [i64_w, i32_w]; rw [a9]) | skip)
   have H' := Aside0.mk H; clear H; obtain ⟨d3, d4, HGz6, hgz6, HSz6_0⟩ := HI0.out; have b3 := cellS70_0 HGz6; have b4 := cellS70_1 HGz6; have b5 := blk_frozen HGz6 1; clear HGz6 hgz6
   go_wp2
   repeat (go_quiet (fail); try go_wp2)
   go_meet
   case rel => exact ⟨_, (((s0_0.length : Int) == 0)), (by first | rfl | (simp; done) | (simp [*]; done)), H', ⟨by first | omega | exact Nat.le_refl _⟩, ⟨by repeat (with_reducible first | exact HI0.out | apply IsS70.alloc | apply IsS70.drewN | apply IsS70.drew | apply IsS70.set_1)⟩, ⟨by repeat (with_reducible first | exact HK.out | apply KeepBut.set_ | apply keep_drewN | apply keep_drew | apply keep_alloc)⟩, ⟨by repeat (with_reducible first | exact HB.out | apply below_alloc | apply pw_below_drewN | apply below_drew1 | refine below_set ?_ (IsS70.ge HI0.out))⟩⟩
 case rest =>
  clear HC3; (try clear p2); (try clear c4); (try clear c5); (try clear a9); (try clear p6); (try clear b0); (try clear b1); (try clear b3); (try clear b4); (try clear b2); (try clear b5); obtain ⟨kq, a5, rfl, HA, HJ2, HI0, HK, HB⟩ := hcut
  cases kq with
  | zero => exact absurd HA.out (by simp [spec_l20Rd_pick.j0])
  | succ kj2 =>
   have H := HA.out; clear HA
   simp only [spec_l20Rd_pick.j0] at H
   by_cases c7 : a5 = true
   ·
    subst c7
    rw [if_pos rfl] at H
    simp only [Option.some.injEq, Prod.mk.injEq] at H
    obtain ⟨rfl, rfl⟩ := H
    go_wp2
    repeat (go_quiet (fail); try go_wp2)
    go_ret
    exact ⟨by first | rfl | (simp [*, errW_none, errW_some] <;> rfl), by repeat (with_reducible first | exact HI0.out | apply IsS70.alloc | apply IsS70.drewN | apply IsS70.drew | apply IsS70.set_1), by repeat (with_reducible first | exact HB.out | apply below_alloc | apply pw_below_drewN | apply below_drew1 | refine below_set ?_ (IsS70.ge HI0.out)), by repeat (with_reducible first | exact HK.out | apply KeepBut.set_ | apply keep_drewN | apply keep_drew | apply keep_alloc)⟩
   ·
    replace c7 := Bool.eq_false_iff.mpr c7
    subst c7
    rw [if_neg (show ¬ (false = true) by decide)] at H
    by_cases c8 : (wrap64 ((wrap64 (s0_1 + 1)) - 1)) < (s0_0.length : Int)
    ·
     rw [if_pos c8] at H
     have b6 : decide ((wrap64 ((wrap64 (s0_1 + 1)) - 1)) < (s0_0.length : Int)) = true := decide_eq_true c8; clear c8; obtain ⟨ji9, hji9⟩ : ∃ j_ : Int, (wrap64 ((wrap64 (s0_1 + 1)) - 1)) = j_ := ⟨_, rfl⟩
     replace H : (if 0 ≤ (ji9) then (if a1 = 0 then (none) else (some (Int.tmod (wrap64 (rd s0_0 (ji9))) a1, (wrap64 (s0_1 + 1))))) else (none)) = some (r1, r2) := by first | (rw [hji9] at H; exact H) | (simp only [hji9] at H ⊢; exact H)
     (try rw [hji9] at b6)
     have hji9w : (IntKind.i64.wrap ((wrap64 (s0_1 + 1)) - 1)) = ji9 := (i64_w _).trans hji9
     by_cases c10 : 0 ≤ (ji9)
     ·
      rw [if_pos c10] at H
      replace c10 := decide_eq_true c10
      by_cases c11 : a1 = 0
      ·
       rw [if_pos c11] at H
       exact absurd H (by simp)
      ·
       rw [if_neg c11] at H
       have d8 := beq_eq_false_iff_ne.mpr c11; have d9 := bne_iff_ne.mpr c11
       simp only [Option.some.injEq, Prod.mk.injEq] at H
       obtain ⟨rfl, rfl⟩ := H; obtain ⟨b7, b8, HGz12, hgz12, HSz12_0⟩ := HI0.out; have b9 := cellS70_0 HGz12; have c0 := cellS70_1 HGz12; have c1 := blk_frozen HGz12 1; clear HGz12 hgz12; have p101 : 0 ≤ ((ji9) : Int) := of_decide_eq_true (by assumption); have q101 : (ji9) < (s0_0.length : Int) := of_decide_eq_true (by assumption); obtain ⟨ad101, d5, a6⟩ := Kd.at_int HSz12_0 (ji9) p101 q101
       cases d5
       replace a6 := pw_cell_below HB.out a6; replace p101 := eq_true p101; replace q101 := eq_true q101
       go_wp2
       repeat (go_quiet (fail); try go_wp2)
       go_ret
       exact ⟨by first | rfl | (simp [errW_none, errW_some] <;> rfl) | (simp only [← hji9]; first | rfl | (simp [errW_none, errW_some] <;> rfl)) | (simp [*, errW_none, errW_some] <;> rfl), by repeat (with_reducible first | exact HI0.out | apply IsS70.alloc | apply IsS70.drewN | apply IsS70.drew | apply IsS70.set_1), by repeat (with_reducible first | exact HB.out | apply below_alloc | apply pw_below_drewN | apply below_drew1 | refine below_set ?_ (IsS70.ge HI0.out)), by repeat (with_reducible first | exact HK.out | apply KeepBut.set_ | apply keep_drewN | apply keep_drew | apply keep_alloc)⟩
     ·
      rw [if_neg c10] at H
      exact absurd H (by simp)
    ·
     rw [if_neg c8] at H
     have b6 : decide ((wrap64 ((wrap64 (s0_1 + 1)) - 1)) < (s0_0.length : Int)) = false := decide_eq_false c8; clear c8
     by_cases c13 : (s0_0.length : Int) = 0
     ·
      rw [if_pos c13] at H
      exact absurd H (by simp)
     ·
      rw [if_neg c13] at H
      have e0 := beq_eq_false_iff_ne.mpr c13; have e1 := bne_iff_ne.mpr c13; have e2 : ¬ (s0_0 = []) := fun h_ => c13 (by rw [h_]; rfl); obtain ⟨ji14, hji14⟩ : ∃ j_ : Int, (Int.tmod (wrap64 ((wrap64 (s0_1 + 1)) - 1)) (s0_0.length : Int)) = j_ := ⟨_, rfl⟩
      replace H : (if 0 ≤ (ji14) then (if (ji14) < (s0_0.length : Int) then (if 0 ≤ (Int.tmod (wrap64 ((wrap64 ((wrap64 ((wrap64 (s0_1 + 1)) - 1)) * 7)) + 3)) (s0_0.length : Int)) then (if (Int.tmod (wrap64 ((wrap64 ((wrap64 ((wrap64 (s0_1 + 1)) - 1)) * 7)) + 3)) (s0_0.length : Int)) < (s0_0.length : Int) then (if a1 = 0 then (none) else (some (Int.tmod (Go.bits .xor .i64 (wrap64 ((wrap64 ((wrap64 ((wrap64 ((wrap64 (rd s0_0 (ji14))) * 131)) + (wrap64 ((wrap64 (rd s0_0 (Int.tmod (wrap64 ((wrap64 ((wrap64 ((wrap64 (s0_1 + 1)) - 1)) * 7)) + 3)) (s0_0.length : Int)))) * 1117)))) + (wrap64 ((wrap64 ((wrap64 (s0_1 + 1)) - 1)) * 29)))) + (wrap64 ((wrap64 (Int.tdiv (wrap64 ((wrap64 (s0_1 + 1)) - 1)) (s0_0.length : Int))) * 53)))) (wrap64 (Int.tdiv (wrap64 ((wrap64 ((wrap64 ((wrap64 ((wrap64 (rd s0_0 (ji14))) * 131)) + (wrap64 ((wrap64 (rd s0_0 (Int.tmod (wrap64 ((wrap64 ((wrap64 ((wrap64 (s0_1 + 1)) - 1)) * 7)) + 3)) (s0_0.length : Int)))) * 1117)))) + (wrap64 ((wrap64 ((wrap64 (s0_1 + 1)) - 1)) * 29)))) + (wrap64 ((wrap64 (Int.tdiv (wrap64 ((wrap64 (s0_1 + 1)) - 1)) (s0_0.length : Int))) * 53)))) 64))) a1, (wrap64 (s0_1 + 1))))) else (none)) else (none)) else (none)) else (none)) = some (r1, r2) := by first | (rw [hji14] at H; exact H) | (simp only [hji14] at H ⊢; exact H)
      by_cases c15 : 0 ≤ (ji14)
      ·
       rw [if_pos c15] at H
       replace c15 := decide_eq_true c15
       by_cases c16 : (ji14) < (s0_0.length : Int)
       ·
        rw [if_pos c16] at H
        replace c16 := decide_eq_true c16; obtain ⟨ji17, hji17⟩ : ∃ j_ : Int, (Int.tmod (wrap64 ((wrap64 ((wrap64 ((wrap64 (s0_1 + 1)) - 1)) * 7)) + 3)) (s0_0.length : Int)) = j_ := ⟨_, rfl⟩
        replace H : (if 0 ≤ (ji17) then (if (ji17) < (s0_0.length : Int) then (if a1 = 0 then (none) else (some (Int.tmod (Go.bits .xor .i64 (wrap64 ((wrap64 ((wrap64 ((wrap64 ((wrap64 (rd s0_0 (ji14))) * 131)) + (wrap64 ((wrap64 (rd s0_0 (ji17))) * 1117)))) + (wrap64 ((wrap64 ((wrap64 (s0_1 + 1)) - 1)) * 29)))) + (wrap64 ((wrap64 (Int.tdiv (wrap64 ((wrap64 (s0_1 + 1)) - 1)) (s0_0.length : Int))) * 53)))) (wrap64 (Int.tdiv (wrap64 ((wrap64 ((wrap64 ((wrap64 ((wrap64 (rd s0_0 (ji14))) * 131)) + (wrap64 ((wrap64 (rd s0_0 (ji17))) * 1117)))) + (wrap64 ((wrap64 ((wrap64 (s0_1 + 1)) - 1)) * 29)))) + (wrap64 ((wrap64 (Int.tdiv (wrap64 ((wrap64 (s0_1 + 1)) - 1)) (s0_0.length : Int))) * 53)))) 64))) a1, (wrap64 (s0_1 + 1))))) else (none)) else (none)) = some (r1, r2) := by first | (rw [hji17] at H; exact H) | (simp only [hji17] at H ⊢; exact H)
        by_cases c18 : 0 ≤ (ji17)
        ·
         rw [if_pos c18] at H
         replace c18 := decide_eq_true c18
         by_cases c19 : (ji17) < (s0_0.length : Int)
         ·
          rw [if_pos c19] at H
          replace c19 := decide_eq_true c19
          by_cases c20 : a1 = 0
          ·
           rw [if_pos c20] at H
           exact absurd H (by simp)
          ·
           rw [if_neg c20] at H
           have e3 := beq_eq_false_iff_ne.mpr c20; have e4 := bne_iff_ne.mpr c20
           simp only [Option.some.injEq, Prod.mk.injEq] at H
           obtain ⟨rfl, rfl⟩ := H; obtain ⟨c2, c3, HGz21, hgz21, HSz21_0⟩ := HI0.out; have c6 := cellS70_0 HGz21; have c9 := cellS70_1 HGz21; have d0 := blk_frozen HGz21 1; clear HGz21 hgz21; have p102 : 0 ≤ ((ji14) : Int) := of_decide_eq_true (by assumption); have q102 : (ji14) < (s0_0.length : Int) := of_decide_eq_true (by assumption); obtain ⟨ad102, d6, a7⟩ := Kd.at_int HSz21_0 (ji14) p102 q102
           cases d6
           replace a7 := pw_cell_below HB.out a7; replace p102 := eq_true p102; replace q102 := eq_true q102; have p103 : 0 ≤ ((ji17) : Int) := of_decide_eq_true (by assumption); have q103 : (ji17) < (s0_0.length : Int) := of_decide_eq_true (by assumption); obtain ⟨ad103, d7, a8⟩ := Kd.at_int HSz21_0 (ji17) p103 q103; obtain rfl : ad102 = ad103 := (by injection d7); replace a8 := pw_cell_below HB.out a8; replace p103 := eq_true p103; replace q103 := eq_true q103
           go_wp2
           repeat (go_quiet (fail); try go_wp2)
           go_ret
           exact ⟨by first | rfl | (simp [errW_none, errW_some] <;> rfl) | (simp only [← hji14, ← hji17]; first | rfl | (simp [errW_none, errW_some] <;> rfl)) | (simp [*, errW_none, errW_some] <;> rfl), by repeat (with_reducible first | exact HI0.out | apply IsS70.alloc | apply IsS70.drewN | apply IsS70.drew | apply IsS70.set_1), by repeat (with_reducible first | exact HB.out | apply below_alloc | apply pw_below_drewN | apply below_drew1 | refine below_set ?_ (IsS70.ge HI0.out)), by repeat (with_reducible first | exact HK.out | apply KeepBut.set_ | apply keep_drewN | apply keep_drew | apply keep_alloc)⟩
         ·
          rw [if_neg c19] at H
          exact absurd H (by simp)
        ·
         rw [if_neg c18] at H
         exact absurd H (by simp)
       ·
        rw [if_neg c16] at H
        exact absurd H (by simp)
      ·
       rw [if_neg c15] at H
       exact absurd H (by simp)
end
section
open Go.Proofs.YtmbkhindhndccaaDoorW.PrintWords.Aside0 renaming mk → yaa
open Go.Proofs.YtmbkhindhndccaaDoor.X.IsS70 renaming alloc → yab, drewN → yac, set_1 → yad, drew → yag
open Go.Proofs.YtmbkhindhndccaaDoorW.PrintWords.KeepBut renaming set_ → yae
open Go.Proofs.YtmbkhindhndccaaDoorW.PrintWords renaming pw_below_drewN → yaf

def spec_l20Bytes.l0 : Nat → List Int → Int → List Int → Int → Option (List Int × Int)
 | 0, _, _, _, _ => none
 | k + 1, x5, x6, x1000, x1001 => if x6 > 0 then ((spec_l20Rd_pick.f k x1000 x1001 256).bind fun bt106 => ((spec_l20Rd_pick.f k x1000 bt106.2 4).bind fun bt108 => ((some (([bt106.1, bt108.1, 255] : List Int) : List Int)).bind fun y110 => ((spec_l20Rd_pick.f k x1000 bt108.2 3).bind fun bt113 => (if 0 ≤ bt113.1 then (if bt113.1 < (y110.length : Int) then (if x5.length < 140737488355328 then (spec_l20Bytes.l0 k (x5 ++ [(rd y110 bt113.1) % 256]) (wrap64 (x6 - 1)) x1000 bt113.2) else (none)) else (none)) else (none)))))) else (some (x5, x1001))
def spec_l20Bytes.f (k : Nat) (s0_0 : List Int) (s0_1 : Int) (a1 : Int) : Option (List Int × Int) := (spec_l20Rd_pick.f k s0_0 s0_1 (wrap64 (a1 + 1))).bind fun bt104 => (spec_l20Bytes.l0 k (([] : List Int)) bt104.1 s0_0 bt104.2)
set_option maxHeartbeats 8000000 in
set_option maxRecDepth 100000 in
theorem spec_l20Bytes.calls (k : Nat) (g : Nat) (s0_0 : List Int) (s0_1 : Int) (a1 : Int) (r1 : List Int) (r2 : Int) (w0 w : World) (hI : IsS70 w0 w g s0_0 s0_1) (hB : Below w0.heap.size w0 w) (h : spec_l20Bytes.f k s0_0 s0_1 a1 = some (r1, r2)) :
  Calls Tryd.prog 25 #[.pointer (some ⟨g, 0, none⟩), .int .i64 a1] w fun e w' => ∃ v0_ : Value, e = .returned (v0_) ∧ Kd.R (Kd.int .u8) 5 w' w.heap.size (fun _ => True) v0_ r1 ∧ IsS70 w0 w' g s0_0 r2 ∧ Below w0.heap.size w0 w' ∧ KeepBut w w' g none := by
 have HI0 := yaa hI; have HK := yaa (KeepBut.refl w g none); have HL := yaa hB.size; clear hI; have HW0 := yaa hB.size; have HB := yaa hB; clear hB; have H : ((spec_l20Rd_pick.f k s0_0 s0_1 (wrap64 (a1 + 1))).bind fun a7 => (spec_l20Bytes.l0 k (([] : List Int)) a7.1 s0_0 a7.2)) = some (r1, r2) := h; clear h; obtain ⟨y101, hy101⟩ : ∃ y_ : List Int, y_ = (([] : List Int)) := ⟨_, rfl⟩
 replace H : ((spec_l20Rd_pick.f k s0_0 s0_1 (wrap64 (a1 + 1))).bind fun a7 => (spec_l20Bytes.l0 k y101 a7.1 s0_0 a7.2)) = some (r1, r2) := by first | (rw [hy101]; with_reducible exact H) | (have H2_ := (Option.bind_some _ _).symm.trans H; rw [hy101]; with_reducible exact H2_) | (have H2_ := (Option.bind_some _ _).symm.trans H; with_reducible exact H2_) | with_reducible exact H | (rw [hy101]; exact H) | exact H
 have Ny101 := yaa hy101; clear hy101; obtain ⟨⟨b8, b9⟩, A3, H⟩ := bindA H; (try dsimp only at H); have H' := yaa H; clear H
 go_enter Tryd.func25, Tryd.ntmps25
 go_wp2_with (first | ((with_reducible refine gd_ 7 rfl ?_); refine Kd.R_lit (Kd.int .u8) _ 5 ?hg (N := 7) ?hd (xs := ([] : List Int)) (inner := []) (ok := fun _ => True) (okp := fun _ => True) ?hr ?hp (fun _ hk => hk) trivial (Below.refl _ _) (Nat.le_refl _) (by simp) ?_; (case hd => rfl); (case hg => rfl); (case hr => first | (go_simp; done) | (go_simp; rfl)); (case hp => exact (Reps.none _ _)); intro c6 w4 ho5 hb hg_ hnew_; clear hg_ hnew_; (first | rw [← Ny101.out] at ho5 | (simp only [Int.reduceToNat] at ho5; rw [← Ny101.out] at ho5)); have a9 := yaa (Kd.R_lower ho5 (keep_size (w := w) (g := g) (row := none) (by repeat (with_reducible first | exact HK.out | apply yae | apply keep_drewN | apply keep_drew | apply keep_alloc)))); replace HK := yaa (KeepBut.trans (by repeat (with_reducible first | exact HK.out | apply yae | apply keep_drewN | apply keep_drew | apply keep_alloc)) (KeepBut.of_below hb g none) (.inl rfl)); replace HB := yaa (below_step (by repeat (with_reducible first | exact HB.out | apply below_alloc | apply yaf | apply below_drew1 | refine below_set ?_ (IsS70.ge HI0.out))) hb); replace HI0 := yaa (IsS70.below (by repeat (with_reducible first | exact HI0.out | apply yab | apply yac | apply yag | apply yad)) hb); clear hb ho5) | ((with_reducible refine gc_ 43 rfl ?_); refine gl_ (some 11) rfl Tryd.func43 #[.pointer (some ⟨g, 0, none⟩), .int .i64 (wrap64 (a1 + 1))] ?_; (with_reducible refine (spec_l20Rd_pick.calls k g s0_0 s0_1 (wrap64 (a1 + 1)) b8 b9 w0 _ ?side1 ?side2 A3.out).mono ?_); (case side1 => repeat (with_reducible first | exact HI0.out | apply yab | apply yac | apply yag | apply yad)); (case side2 => repeat (with_reducible first | exact HB.out | apply below_alloc | apply yaf | apply below_drew1 | refine below_set ?_ (IsS70.ge HI0.out))); rintro e w6 ⟨rfl, hi, hb, hk⟩; refine ⟨_, rfl, ?_⟩; replace a9 := yaa (Kd.R_mono (Kd.R_keep (IsS70.apart (show IsS70 w0 _ g s0_0 s0_1 from by repeat (with_reducible first | exact HI0.out | apply yab | apply yac | apply yag | apply yad)) (upR a9.out) (by decide)) hk (fun _ h => h.2)) (fun _ h => h.1)); replace HK := yaa (KeepBut.trans (by repeat (with_reducible first | exact HK.out | apply yae | apply keep_drewN | apply keep_drew | apply keep_alloc)) hk (.inl rfl)); replace HB := yaa (hb); replace HI0 := yaa (hi); (try clear hb hk hi)))
 (try simp only [Act.put, List.setIfInBounds_toArray, List.set_cons_zero, List.set_cons_succ])
 go_loopg [5, 6] k (fun kq v5 v6 w' => ∃ (b0 : List Int) (a8 : Int) (a4 : Int), v6 = .int .i64 a8 ∧ Aside0 (spec_l20Bytes.l0 kq b0 a8 s0_0 a4 = some (r1, r2)) ∧ Aside0 (kq ≤ k) ∧ Aside0 (Kd.R (Kd.int .u8) 5 w' w.heap.size (fun _ => True) v5 b0) ∧ Aside0 (IsS70 w0 w' g s0_0 a4) ∧ Aside0 (KeepBut w w' g none) ∧ Aside0 (Below w0.heap.size w0 w'))
 case atStart => exact ⟨(y101), (b8), (b9), (by first | rfl | (simp; done) | (simp [*]; done)), H', ⟨Nat.le_refl _⟩, ⟨by first | exact a9.out | exact upR a9.out⟩, ⟨by repeat (with_reducible first | exact HI0.out | apply yab | apply yac | apply yag | apply yad)⟩, ⟨by repeat (with_reducible first | exact HK.out | apply yae | apply keep_drewN | apply keep_drew | apply keep_alloc)⟩, ⟨by repeat (with_reducible first | exact HB.out | apply below_alloc | apply yaf | apply below_drew1 | refine below_set ?_ (IsS70.ge HI0.out))⟩⟩
 case round =>
  clear H'; (try clear c2); (try clear p2); (try clear c4); (try clear p6); obtain ⟨b0, a8, a4, rfl, HA, HK1, a3, HI0, HK, HB⟩ := hrel
  cases gk with
  | zero => exact absurd HA.out (by simp [spec_l20Bytes.l0])
  | succ k1 =>
   have H := HA.out; clear HA
   simp only [spec_l20Bytes.l0] at H
   by_cases c7 : a8 > 0
   ·
    rw [if_pos c7] at H
    have c1 : decide (0 < a8) = true := decide_eq_true c7; clear c7; obtain ⟨⟨b1, b6⟩, A8, H⟩ := bindA H; (try dsimp only at H); obtain ⟨⟨b2, b4⟩, A9, H⟩ := bindA H; (try dsimp only at H); obtain ⟨y110, hy110, H⟩ := bindY H; (try dsimp only at H); have Ny110 := yaa hy110; clear hy110; obtain ⟨⟨a6, b7⟩, A10, H⟩ := bindA H; (try dsimp only at H)
    by_cases c11 : 0 ≤ a6
    ·
     rw [if_pos c11] at H
     replace c11 := decide_eq_true c11
     by_cases c12 : a6 < (y110.length : Int)
     ·
      rw [if_pos c12] at H
      replace c12 := decide_eq_true c12
      by_cases c13 : b0.length < 140737488355328
      ·
       rw [if_pos c13] at H
       have LMc13 := yaa c13; clear c13; obtain ⟨y116, hy116⟩ : ∃ y_ : List Int, y_ = (b0 ++ [(rd y110 a6) % 256]) := ⟨_, rfl⟩
       replace H : (spec_l20Bytes.l0 k1 y116 (wrap64 (a8 - 1)) s0_0 b7) = some (r1, r2) := by first | (rw [hy116]; with_reducible exact H) | (have H2_ := (Option.bind_some _ _).symm.trans H; rw [hy116]; with_reducible exact H2_) | (have H2_ := (Option.bind_some _ _).symm.trans H; with_reducible exact H2_) | with_reducible exact H | (rw [hy116]; exact H) | exact H
       have Ny116 := yaa hy116; clear hy116; have H' := yaa H; clear H
       go_wp2_with (first | ((with_reducible refine gc_ 43 rfl ?_); refine gl_ (some 18) rfl Tryd.func43 #[.pointer (some ⟨g, 0, none⟩), .int .i64 256] ?_; (with_reducible refine (spec_l20Rd_pick.calls k1 g s0_0 a4 256 b1 b6 w0 _ ?side1 ?side2 A8.out).mono ?_); (case side1 => repeat (with_reducible first | exact HI0.out | apply yab | apply yac | apply yag | apply yad)); (case side2 => repeat (with_reducible first | exact HB.out | apply below_alloc | apply yaf | apply below_drew1 | refine below_set ?_ (IsS70.ge HI0.out))); rintro e w14 ⟨rfl, hi, hb, hk⟩; refine ⟨_, rfl, ?_⟩; replace a3 := yaa (Kd.R_mono (Kd.R_keep (IsS70.apart (show IsS70 w0 _ g s0_0 a4 from by repeat (with_reducible first | exact HI0.out | apply yab | apply yac | apply yag | apply yad)) (upR a3.out) (by decide)) hk (fun _ h => h.2)) (fun _ h => h.1)); replace HK := yaa (KeepBut.trans (by repeat (with_reducible first | exact HK.out | apply yae | apply keep_drewN | apply keep_drew | apply keep_alloc)) hk (.inl rfl)); replace HB := yaa (hb); replace HI0 := yaa (hi); (try clear hb hk hi)) | ((with_reducible refine gc_ 43 rfl ?_); refine gl_ (some 20) rfl Tryd.func43 #[.pointer (some ⟨g, 0, none⟩), .int .i64 4] ?_; (with_reducible refine (spec_l20Rd_pick.calls k1 g s0_0 b6 4 b2 b4 w0 _ ?side1 ?side2 A9.out).mono ?_); (case side1 => repeat (with_reducible first | exact HI0.out | apply yab | apply yac | apply yag | apply yad)); (case side2 => repeat (with_reducible first | exact HB.out | apply below_alloc | apply yaf | apply below_drew1 | refine below_set ?_ (IsS70.ge HI0.out))); rintro e w15 ⟨rfl, hi, hb, hk⟩; refine ⟨_, rfl, ?_⟩; replace a3 := yaa (Kd.R_mono (Kd.R_keep (IsS70.apart (show IsS70 w0 _ g s0_0 b6 from by repeat (with_reducible first | exact HI0.out | apply yab | apply yac | apply yag | apply yad)) (upR a3.out) (by decide)) hk (fun _ h => h.2)) (fun _ h => h.1)); replace HK := yaa (KeepBut.trans (by repeat (with_reducible first | exact HK.out | apply yae | apply keep_drewN | apply keep_drew | apply keep_alloc)) hk (.inl rfl)); replace HB := yaa (hb); replace HI0 := yaa (hi); (try clear hb hk hi)) | ((with_reducible refine gd_ 21 rfl ?_); refine Kd.R_lit (Kd.int .i64) _ 3 ?hg (N := 21) ?hd (xs := ([b1, b2, 255] : List Int)) (inner := [.int .i64 b1, .int .i64 b2, .int .i64 255]) (ok := fun _ => True) (okp := fun _ => True) ?hr ?hp (fun _ hk => hk) trivial (Below.refl _ _) (Nat.le_refl _) (by simp) ?_; (case hd => rfl); (case hg => rfl); (case hr => first | (go_simp; done) | (go_simp; rfl)); (case hp => exact (Reps.one (show Kd.M (Kd.int .i64) _ _ _ b1 [.int .i64 b1] from rfl) (Reps.one (show Kd.M (Kd.int .i64) _ _ _ b2 [.int .i64 b2] from rfl) (Reps.one (show Kd.M (Kd.int .i64) _ _ _ 255 [.int .i64 255] from rfl) (Reps.none _ _))))); intro c8 w16 b3 hb hg_ hnew_; clear hg_ hnew_; (first | rw [← Ny110.out] at b3 | (simp only [Int.reduceToNat] at b3; rw [← Ny110.out] at b3)); replace a3 := yaa (Kd.R_below (upR a3.out) hb); have a5 := yaa (Kd.R_lower b3 (keep_size (w := w) (g := g) (row := none) (by repeat (with_reducible first | exact HK.out | apply yae | apply keep_drewN | apply keep_drew | apply keep_alloc)))); replace HK := yaa (KeepBut.trans (by repeat (with_reducible first | exact HK.out | apply yae | apply keep_drewN | apply keep_drew | apply keep_alloc)) (KeepBut.of_below hb g none) (.inl rfl)); replace HB := yaa (below_step (by repeat (with_reducible first | exact HB.out | apply below_alloc | apply yaf | apply below_drew1 | refine below_set ?_ (IsS70.ge HI0.out))) hb); replace HI0 := yaa (IsS70.below (by repeat (with_reducible first | exact HI0.out | apply yab | apply yac | apply yag | apply yad)) hb); clear hb b3) | ((with_reducible refine gc_ 43 rfl ?_); refine gl_ (some 23) rfl Tryd.func43 #[.pointer (some ⟨g, 0, none⟩), .int .i64 3] ?_; (with_reducible refine (spec_l20Rd_pick.calls k1 g s0_0 b4 3 a6 b7 w0 _ ?side1 ?side2 A10.out).mono ?_); (case side1 => repeat (with_reducible first | exact HI0.out | apply yab | apply yac | apply yag | apply yad)); (case side2 => repeat (with_reducible first | exact HB.out | apply below_alloc | apply yaf | apply below_drew1 | refine below_set ?_ (IsS70.ge HI0.out))); rintro e w18 ⟨rfl, hi, hb, hk⟩; refine ⟨_, rfl, ?_⟩; replace a3 := yaa (Kd.R_mono (Kd.R_keep (IsS70.apart (show IsS70 w0 _ g s0_0 b4 from by repeat (with_reducible first | exact HI0.out | apply yab | apply yac | apply yag | apply yad)) (upR a3.out) (by decide)) hk (fun _ h => h.2)) (fun _ h => h.1)); replace a5 := yaa (Kd.R_mono (Kd.R_keep (IsS70.apart (show IsS70 w0 _ g s0_0 b4 from by repeat (with_reducible first | exact HI0.out | apply yab | apply yac | apply yag | apply yad)) (upR a5.out) (by decide)) hk (fun _ h => h.2)) (fun _ h => h.1)); replace HK := yaa (KeepBut.trans (by repeat (with_reducible first | exact HK.out | apply yae | apply keep_drewN | apply keep_drew | apply keep_alloc)) hk (.inl rfl)); replace HB := yaa (hb); replace HI0 := yaa (hi); (try clear hb hk hi); obtain ⟨c9, d0, c3⟩ := Kd.R_slice a5.out; subst c3; have p115 : 0 ≤ (a6 : Int) := of_decide_eq_true (by assumption); have q115 : a6 < (y110.length : Int) := of_decide_eq_true (by assumption); obtain ⟨ad115, c5, c0⟩ := Kd.at_int (Kd.R_reads' a5.out).2.2 a6 p115 q115; cases c5; replace p115 := eq_true p115; replace q115 := eq_true q115) | ((with_reducible refine gate_builtin (b := .append) (xs := #[.tmp 16, .tmp 27]) rfl ?_); at_builtin; refine Kd.R_append (Kd.int .u8) w.heap.size rfl (.tmp 16) (.tmp 27) 22 5 (.int .u8 0) 1 rfl Tryd.underlying22 info5 rfl (by decide) (by omega) u5 b0 ((rd y110 a6) % 256) [.int .u8 ((rd y110 a6) % 256)] (fun _ => True) (fun _ => False) rfl rfl ?aP (fun _ hk => hk.elim) ?aF ?aO (Below.refl _ _) ?aS ?aL ?_; (case aP => exact rfl); (case aF => exact (fun _ _ => trivial)); (case aO => exact (upR a3.out)); (case aS => exact (keep_size (w := w) (g := g) (row := none) (by repeat (with_reducible first | exact HK.out | apply yae | apply keep_drewN | apply keep_drew | apply keep_alloc)))); (case aL => have := LMc13.out; omega); intro d1 w20 ho hb hg hat; rw [← Ny116.out] at ho; replace a5 := yaa (Kd.R_over' (upR a5.out) (Kd.R_typed (upR a3.out)) (by decide) hg); replace HB := yaa (below_weaken (by repeat (with_reducible first | exact HB.out | apply below_alloc | apply yaf | apply below_drew1 | refine below_set ?_ (IsS70.ge HI0.out))) HL.out hb); replace HI0 := yaa (IsS70.grown (by repeat (with_reducible first | exact HI0.out | apply yab | apply yac | apply yag | apply yad)) hg (IsS70.own_ne HI0.out a3.out (by decide))); replace HK := yaa (KeepBut.trans (by repeat (with_reducible first | exact HK.out | apply yae | apply keep_drewN | apply keep_drew | apply keep_alloc)) (KeepBut.of_grown hg g) (Kd.R_base2 a3.out)); have b5 := yaa (ho); clear a3; clear ho hb hg hat))
       go_roundg k1
       case measure => have := HK1.out; omega
       case rel => exact ⟨(y116), (wrap64 (a8 - 1)), (b7), (by first | rfl | (simp; done) | (simp [*]; done)), H', ⟨by have := HK1.out; omega⟩, ⟨by first | exact b5.out | exact upR b5.out⟩, ⟨by repeat (with_reducible first | exact HI0.out | apply yab | apply yac | apply yag | apply yad)⟩, ⟨by repeat (with_reducible first | exact HK.out | apply yae | apply keep_drewN | apply keep_drew | apply keep_alloc)⟩, ⟨by repeat (with_reducible first | exact HB.out | apply below_alloc | apply yaf | apply below_drew1 | refine below_set ?_ (IsS70.ge HI0.out))⟩⟩
      ·
       rw [if_neg c13] at H
       exact absurd H (by simp)
     ·
      rw [if_neg c12] at H
      exact absurd H (by simp)
    ·
     rw [if_neg c11] at H
     exact absurd H (by simp)
   ·
    rw [if_neg c7] at H
    have c1 : decide (0 < a8) = false := decide_eq_false c7; clear c7
    simp only [Option.some.injEq, Prod.mk.injEq] at H
    obtain ⟨rfl, rfl⟩ := H
    go_wp2
    go_ret
    exact ⟨_, by first | rfl | (simp [*, errW_none, errW_some] <;> rfl), by first | exact a3.out | exact upR a3.out, by repeat (with_reducible first | exact HI0.out | apply yab | apply yac | apply yag | apply yad), by repeat (with_reducible first | exact HB.out | apply below_alloc | apply yaf | apply below_drew1 | refine below_set ?_ (IsS70.ge HI0.out)), by repeat (with_reducible first | exact HK.out | apply yae | apply keep_drewN | apply keep_drew | apply keep_alloc)⟩
end
section
def spec_l20Rd_odd.f (k : Nat) (s0_0 : List Int) (s0_1 : Int) (a1 : Int) : Option (Bool × Int) := if a1 > 0 then ((spec_l20Rd_pick.f k s0_0 s0_1 a1).bind fun bt101 => (some ((bt101.1 == (wrap64 (a1 - 1))), bt101.2))) else (some (false, s0_1))
set_option maxHeartbeats 8000000 in
set_option maxRecDepth 100000 in
theorem spec_l20Rd_odd.calls (k : Nat) (g : Nat) (s0_0 : List Int) (s0_1 : Int) (a1 : Int) (r1 : Bool) (r2 : Int) (w0 w : World) (hI : IsS70 w0 w g s0_0 s0_1) (hB : Below w0.heap.size w0 w) (h : spec_l20Rd_odd.f k s0_0 s0_1 a1 = some (r1, r2)) :
    Calls Tryd.prog 46 #[.pointer (some ⟨g, 0, none⟩), .int .i64 a1] w fun e w' => e = .returned (.bool r1) ∧ IsS70 w0 w' g s0_0 r2 ∧ Below w0.heap.size w0 w' ∧ KeepBut w w' g none := by
  have HI0 := Aside0.mk hI; have HK := Aside0.mk (KeepBut.refl w g none); have HL := Aside0.mk hB.size; clear hI; have HW0 := Aside0.mk hB.size; have HB := Aside0.mk hB; clear hB; have H : (if a1 > 0 then ((spec_l20Rd_pick.f k s0_0 s0_1 a1).bind fun bt101 => (some ((bt101.1 == (wrap64 (a1 - 1))), bt101.2))) else (some (false, s0_1))) = some (r1, r2) := h; clear h
  by_cases c3 : a1 > 0
  · rw [if_pos c3] at H
    have c3b0 : decide (0 < a1) = true := decide_eq_true c3; clear c3; obtain ⟨⟨t101, t102⟩, A4, H⟩ := bindA H; (try dsimp only at H)
    simp only [Option.some.injEq, Prod.mk.injEq] at H
    obtain ⟨rfl, rfl⟩ := H
    go_enter Tryd.func46, Tryd.ntmps46
    go_wp2_with (first | (go_at_call 43; (with_reducible refine (spec_l20Rd_pick.calls k g s0_0 s0_1 a1 t101 t102 w0 _ ?side1 ?side2 A4.out).mono ?_); (case side1 => repeat (with_reducible first | exact HI0.out | apply IsS70.alloc | apply IsS70.drewN | apply IsS70.drew | apply IsS70.set_1)); (case side2 => repeat (with_reducible first | exact HB.out | apply below_alloc | apply pw_below_drewN | apply below_drew1 | refine below_set ?_ (IsS70.ge HI0.out))); rintro e w5 ⟨rfl, hi, hb, hk⟩; replace HK := Aside0.mk (KeepBut.trans (by repeat (with_reducible first | exact HK.out | apply KeepBut.set_ | apply keep_drewN | apply keep_drew | apply keep_alloc)) hk (.inl rfl)); replace HB := Aside0.mk (hb); replace HI0 := Aside0.mk (hi); (try clear hb hk hi)))
    go_ret
    exact ⟨by first | rfl | (simp [*, errW_none, errW_some] <;> rfl), by repeat (with_reducible first | exact HI0.out | apply IsS70.alloc | apply IsS70.drewN | apply IsS70.drew | apply IsS70.set_1), by repeat (with_reducible first | exact HB.out | apply below_alloc | apply pw_below_drewN | apply below_drew1 | refine below_set ?_ (IsS70.ge HI0.out)), by repeat (with_reducible first | exact HK.out | apply KeepBut.set_ | apply keep_drewN | apply keep_drew | apply keep_alloc)⟩
  · rw [if_neg c3] at H
    have c3b0 : decide (0 < a1) = false := decide_eq_false c3; clear c3
    simp only [Option.some.injEq, Prod.mk.injEq] at H
    obtain ⟨rfl, rfl⟩ := H
    go_enter Tryd.func46, Tryd.ntmps46
    go_wp2
    go_ret
    exact ⟨by first | rfl | (simp [*, errW_none, errW_some] <;> rfl), by repeat (with_reducible first | exact HI0.out | apply IsS70.alloc | apply IsS70.drewN | apply IsS70.drew | apply IsS70.set_1), by repeat (with_reducible first | exact HB.out | apply below_alloc | apply pw_below_drewN | apply below_drew1 | refine below_set ?_ (IsS70.ge HI0.out)), by repeat (with_reducible first | exact HK.out | apply KeepBut.set_ | apply keep_drewN | apply keep_drew | apply keep_alloc)⟩
end
end Go.Proofs.YtmbkhindhndccaaDoor.X
