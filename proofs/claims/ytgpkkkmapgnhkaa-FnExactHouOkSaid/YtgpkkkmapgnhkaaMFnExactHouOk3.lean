/- Lemmas and contracts for the law FnExactHouOk, part 3: of the program's functions, and over data alone. No condition. -/
import Derived.Test.YtgpkkkmapgnhkaaMFnExactHouOk2
namespace Go.Proofs.Ytgpkkkmapgnhkaa.X
open Go.RowKit Go.Proofs.YtgpkkkmapgnhkaaW.PrintWords Go.Proofs.YtgpkkkmapgnhkaaW.PrintLast Go.Proofs.YtgpkkkmapgnhkaaW.PrintMore
attribute [local go_sem] max2_int min2_int max_two min_two max_three min_three max_four min_four
set_option linter.unusedVariables false
set_option linter.unusedSimpArgs false
section
open Go.Proofs.Ytgpkkkmapgnhkaa.X renaming rd_T63 → yaa
open Go.Proofs.YtgpkkkmapgnhkaaW.PrintWords.Aside0 renaming mk → yab
open Go.Proofs.YtgpkkkmapgnhkaaW.PrintWords.Kd renaming C_below → yac, C_alloc → yad, C_drewN → yae
abbrev q48_0 : Array Bool := Array.replicate 10 false
abbrev q48_1 : Array Bool := #[true, false, false, false, false, false, false, false, false, false]
abbrev q48_2 : Array Bool := #[true, true, false, false, false, false, false, false, false, false]
abbrev q48_3 : Array Bool := #[true, true, true, false, false, false, false, false, false, false]
abbrev q48_4 : Array Bool := #[true, true, true, false, true, false, false, false, false, false]
abbrev q48_5 : Array Bool := #[true, true, true, false, true, true, false, false, false, false]
abbrev q48_6 : Array Bool := #[true, true, true, false, true, true, true, false, false, false]
abbrev q48_7 : Array Bool := #[true, true, true, true, true, true, true, false, false, false]
abbrev q48_8 : Array Bool := #[true, true, true, true, true, true, true, true, false, false]
abbrev q48_9 : Array Bool := #[true, true, true, true, true, true, true, true, true, false]
abbrev q48_10 : Array Bool := #[true, true, true, true, true, true, true, true, true, true]
def laws_eqTenStateS.l0 : Nat → List (S63) → List (S63) → Int → Option (Bool)
 | 0, _, _, _ => none
 | k + 1, x0, x1, x5 => if x5 < (x0.length : Int) then (if 0 ≤ x5 then (if x5 < (x1.length : Int) then ((laws_eqTenState.f k ((rd_T63 x0 x5).f0) ((rd_T63 x0 x5).f1) ((rd_T63 x0 x5).f2) ((rd_T63 x0 x5).f3) ((rd_T63 x0 x5).f4) ((rd_T63 x0 x5).f5) ((rd_T63 x0 x5).f6) ((rd_T63 x0 x5).f7) ((rd_T63 x1 x5).f0) ((rd_T63 x1 x5).f1) ((rd_T63 x1 x5).f2) ((rd_T63 x1 x5).f3) ((rd_T63 x1 x5).f4) ((rd_T63 x1 x5).f5) ((rd_T63 x1 x5).f6) ((rd_T63 x1 x5).f7)).bind fun t103 => (if t103 = true then (laws_eqTenStateS.l0 k x0 x1 (wrap64 (x5 + 1))) else (some false))) else (none)) else (none)) else (some true)
def laws_eqTenStateS.f (k : Nat) (l0 : List (S63)) (l1 : List (S63)) : Option (Bool) := if (l0.length : Int) = (l1.length : Int) then (laws_eqTenStateS.l0 k l0 l1 0) else (some false)
def laws_eqTenStateS.T6 : Bool × List (List Nat × List Nat) := (true, [([], []), ([], []), ([0, 1], [0, 1]), ([2], [2]), ([], []), ([], []), ([4, 5], [4, 5]), ([6], [6]), ([3, 7], [3, 7]), ([8], [8])])
def laws_eqTenStateS.B6 : List Nat := [0, 0, 3, 7, 0, 0, 48, 112, 255, 511]
theorem laws_eqTenStateS.tab6 : rtab .any (opsOf Try.f48 6) = laws_eqTenStateS.T6 := by kernel_rfl
theorem laws_eqTenStateS.bits6 : waitsOk laws_eqTenStateS.T6.2 laws_eqTenStateS.B6 = true := by kernel_rfl
set_option maxHeartbeats 8000000 in
set_option maxRecDepth 100000 in
theorem laws_eqTenStateS.calls (k : Nat) (A0 : Option Addr) (c0 : Nat) (l0 : List (S63)) (A1 : Option Addr) (c1 : Nat) (l1 : List (S63)) (r : Bool) (w : World) (hr0 : Kd.C k63 w A0 l0.length l0) (hc0 : l0.length ≤ c0) (hr1 : Kd.C k63 w A1 l1.length l1) (hc1 : l1.length ≤ c1) (h : laws_eqTenStateS.f k l0 l1 = some r) :
  Calls Try.prog 48 #[.slice A0 l0.length c0, .slice A1 l1.length c1] w fun e w' => e = .returned (.bool r) ∧ Below w.heap.size w w' := by
 have hu63 := Try.underlying63; have HR0 := yab hr0; have HC0 := yab hc0; clear hr0 hc0; have HR1 := yab hr1; have HC1 := yab hc1; clear hr1 hc1; have HB := yab (Below.refl w.heap.size w); have H : (if (l0.length : Int) = (l1.length : Int) then (laws_eqTenStateS.l0 k l0 l1 0) else (some false)) = some r := h; clear h
 by_cases c3 : (l0.length : Int) = (l1.length : Int)
 rotate_left
 ·
  rw [if_neg c3] at H
  have g8 := beq_eq_false_iff_ne.mpr c3; have g9 := bne_iff_ne.mpr c3
  have h0 : (l0.length == l1.length) = false := by first | simpa using c3 | (simp at c3 ⊢; omega)
  obtain rfl := Option.some.inj H
  go_enter Try.func48, Try.ntmps48
  go_wp2
  go_ret
  exact ⟨by first | rfl | (simp [*, errW_none, errW_some] <;> rfl), upH HB.out⟩
 rw [if_pos c3] at H
 have g8 := beq_iff_eq.mpr c3; have g9 := bne_eq_false_iff_eq.mpr c3
 have h0 : (l0.length == l1.length) = true := by first | simpa using c3 | (simp at c3 ⊢; omega)
 clear c3; have H' := yab H; clear H
 go_enter Try.func48, Try.ntmps48
 go_wp2
 (try simp only [Act.put, List.setIfInBounds_toArray, List.set_cons_zero, List.set_cons_succ])
 go_loopg [5] k (fun kq v5 w' => ∃ (a2 : Int), v5 = .int .i64 a2 ∧ Aside0 (laws_eqTenStateS.l0 kq l0 l1 a2 = some r) ∧ Aside0 (kq ≤ k) ∧ Aside0 (Below w.heap.size w w'))
 case atStart => exact ⟨(0), (by first | rfl | (simp; done) | (simp [*]; done)), H', ⟨Nat.le_refl _⟩, ⟨upH HB.out⟩⟩
 case round =>
  clear H'; (try clear c1); (try clear p2); (try clear c3); (try clear g8); (try clear g9); (try clear h0); obtain ⟨a2, rfl, HA, HK1, HB⟩ := hrel
  cases gk with
  | zero => exact absurd HA.out (by simp [laws_eqTenStateS.l0])
  | succ k1 =>
   have H := HA.out; clear HA
   simp only [laws_eqTenStateS.l0] at H
   by_cases c4 : a2 < (l0.length : Int)
   rotate_left
   ·
    rw [if_neg c4] at H
    have h1 : decide (a2 < (l0.length : Int)) = false := decide_eq_false c4; clear c4; obtain rfl := Option.some.inj H
    go_wp2
    go_ret
    exact ⟨by first | rfl | (simp [*, errW_none, errW_some] <;> rfl), upH HB.out⟩
   rw [if_pos c4] at H
   have h1 : decide (a2 < (l0.length : Int)) = true := decide_eq_true c4; clear c4
   by_cases c5 : 0 ≤ a2
   rotate_left
   ·
    rw [if_neg c5] at H
    exact absurd H (by simp)
   rw [if_pos c5] at H
   replace c5 := decide_eq_true c5
   by_cases c6 : a2 < (l1.length : Int)
   rotate_left
   ·
    rw [if_neg c6] at H
    exact absurd H (by simp)
   rw [if_pos c6] at H
   replace c6 := decide_eq_true c6; obtain ⟨h2, A7, H⟩ := bindA H; (try dsimp only at H)
   by_cases c8 : h2 = true
   ·
    subst c8
    rw [if_pos rfl] at H
    have H' := yab H; clear H
    try go_wp2
    replace HB := yab (below_drew1 HB.out); have p101 : 0 ≤ (a2 : Int) := of_decide_eq_true (by assumption); have q101 : a2 < (l0.length : Int) := of_decide_eq_true (by assumption); obtain ⟨ad101, e2, e3, e4, e5, e6, e7, e8, e9, g6, a3, a4, a5, a6, a7, a8, a9, b0, hl101_4, hi101_4, hl101_5, hi101_5, hl101_6, hi101_6, hl101_7, hi101_7⟩ := at_T63 HR0.out a2 p101 q101; have b9 := b0; have c2 := a9; have c7 := a8; have c9 := a7; have d0 := a6; have d1 := a5; have d2 := a4; have d3 := a3
    cases g6
    replace a3 := (upc_ HB.out a3 :); replace a4 := (upc_ HB.out a4 :); replace a5 := (upc_ HB.out a5 :); replace a6 := (upc_ HB.out a6 :); replace a7 := (upc_ HB.out a7 :); replace a8 := (upc_ HB.out a8 :); replace a9 := (upc_ HB.out a9 :); replace b0 := (upc_ HB.out b0 :); have HR101_4 := yab hi101_4; have HC101_4 := yab hl101_4; clear hi101_4 hl101_4; have HR101_5 := yab hi101_5; have HC101_5 := yab hl101_5; clear hi101_5 hl101_5; have HR101_6 := yab hi101_6; have HC101_6 := yab hl101_6; clear hi101_6 hl101_6; have HR101_7 := yab hi101_7; have HC101_7 := yab hl101_7; clear hi101_7 hl101_7; replace p101 := eq_true p101; replace q101 := eq_true q101; have p102 : 0 ≤ (a2 : Int) := of_decide_eq_true (by assumption); have q102 : a2 < (l1.length : Int) := of_decide_eq_true (by assumption); obtain ⟨ad102, f8, f9, g0, g1, g2, g3, g4, g5, g7, b1, b2, b3, b4, b5, b6, b7, b8, hl102_4, hi102_4, hl102_5, hi102_5, hl102_6, hi102_6, hl102_7, hi102_7⟩ := at_T63 HR1.out a2 p102 q102; have d4 := b8; have d5 := b7; have d6 := b6; have d7 := b5; have d8 := b4; have d9 := b3; have e0 := b2; have e1 := b1
    cases g7
    replace b1 := (upc_ HB.out b1 :); replace b2 := (upc_ HB.out b2 :); replace b3 := (upc_ HB.out b3 :); replace b4 := (upc_ HB.out b4 :); replace b5 := (upc_ HB.out b5 :); replace b6 := (upc_ HB.out b6 :); replace b7 := (upc_ HB.out b7 :); replace b8 := (upc_ HB.out b8 :); have HR102_4 := yab hi102_4; have HC102_4 := yab hl102_4; clear hi102_4 hl102_4; have HR102_5 := yab hi102_5; have HC102_5 := yab hl102_5; clear hi102_5 hl102_5; have HR102_6 := yab hi102_6; have HC102_6 := yab hl102_6; clear hi102_6 hl102_6; have HR102_7 := yab hi102_7; have HC102_7 := yab hl102_7; clear hi102_7 hl102_7; replace p102 := eq_true p102; replace q102 := eq_true q102
    refine start_ (n := 10) (S := fun w' => w'.cell? (ad101.add ((a2).toNat * 8)) = some (.int .i64 ((yaa l0 a2).f0)) ∧ w'.cell? ⟨(ad101.add ((a2).toNat * 8)).block, (ad101.add ((a2).toNat * 8)).off + 1, none⟩ = some (.int .i64 ((yaa l0 a2).f1)) ∧ w'.cell? ⟨(ad101.add ((a2).toNat * 8)).block, (ad101.add ((a2).toNat * 8)).off + 2, none⟩ = some (.int .i64 ((yaa l0 a2).f2)) ∧ w'.cell? ⟨(ad101.add ((a2).toNat * 8)).block, (ad101.add ((a2).toNat * 8)).off + 3, none⟩ = some (.int .i64 ((yaa l0 a2).f3)) ∧ w'.cell? ⟨(ad101.add ((a2).toNat * 8)).block, (ad101.add ((a2).toNat * 8)).off + 4, none⟩ = some (.slice e2 ((yaa l0 a2).f4).length e3) ∧ w'.cell? ⟨(ad101.add ((a2).toNat * 8)).block, (ad101.add ((a2).toNat * 8)).off + 5, none⟩ = some (.slice e4 ((yaa l0 a2).f5).length e5) ∧ w'.cell? ⟨(ad101.add ((a2).toNat * 8)).block, (ad101.add ((a2).toNat * 8)).off + 6, none⟩ = some (.slice e6 ((yaa l0 a2).f6).length e7) ∧ w'.cell? ⟨(ad101.add ((a2).toNat * 8)).block, (ad101.add ((a2).toNat * 8)).off + 7, none⟩ = some (.slice e8 ((yaa l0 a2).f7).length e9) ∧ w'.cell? (ad102.add ((a2).toNat * 8)) = some (.int .i64 ((yaa l1 a2).f0)) ∧ w'.cell? ⟨(ad102.add ((a2).toNat * 8)).block, (ad102.add ((a2).toNat * 8)).off + 1, none⟩ = some (.int .i64 ((yaa l1 a2).f1)) ∧ w'.cell? ⟨(ad102.add ((a2).toNat * 8)).block, (ad102.add ((a2).toNat * 8)).off + 2, none⟩ = some (.int .i64 ((yaa l1 a2).f2)) ∧ w'.cell? ⟨(ad102.add ((a2).toNat * 8)).block, (ad102.add ((a2).toNat * 8)).off + 3, none⟩ = some (.int .i64 ((yaa l1 a2).f3)) ∧ w'.cell? ⟨(ad102.add ((a2).toNat * 8)).block, (ad102.add ((a2).toNat * 8)).off + 4, none⟩ = some (.slice f8 ((yaa l1 a2).f4).length f9) ∧ w'.cell? ⟨(ad102.add ((a2).toNat * 8)).block, (ad102.add ((a2).toNat * 8)).off + 5, none⟩ = some (.slice g0 ((yaa l1 a2).f5).length g1) ∧ w'.cell? ⟨(ad102.add ((a2).toNat * 8)).block, (ad102.add ((a2).toNat * 8)).off + 6, none⟩ = some (.slice g2 ((yaa l1 a2).f6).length g3) ∧ w'.cell? ⟨(ad102.add ((a2).toNat * 8)).block, (ad102.add ((a2).toNat * 8)).off + 7, none⟩ = some (.slice g4 ((yaa l1 a2).f7).length g5)) (ds := []) q48_0 (by kernel_rfl) rfl rfl ⟨(upc_ HB.out d3 :), (upc_ HB.out d2 :), (upc_ HB.out d1 :), (upc_ HB.out d0 :), (upc_ HB.out c9 :), (upc_ HB.out c7 :), (upc_ HB.out c2 :), (upc_ HB.out b9 :), (upc_ HB.out e1 :), (upc_ HB.out e0 :), (upc_ HB.out d9 :), (upc_ HB.out d8 :), (upc_ HB.out d7 :), (upc_ HB.out d6 :), (upc_ HB.out d5 :), (upc_ HB.out d4 :)⟩ (fun hHeld => ?_); refine with_tabW laws_eqTenStateS.tab6 laws_eqTenStateS.bits6 (fun HT_ HW_ => ?_)
    generalize wr.drew = w9 at HB HR101_4 HR101_5 HR101_6 HR101_7 HR102_4 HR102_5 HR102_6 HR102_7 a3 a4 a5 a6 a7 a8 a9 b0 b1 b2 b3 b4 b5 b6 b7 b8 hHeld ⊢
    refine pz_ 0 17 q48_1 HT_ (by kernel_rfl) ?_
    refine pz_ 1 18 q48_2 HT_ (by kernel_rfl) ?_
    refine pz_ 2 19 q48_3 HT_ (by kernel_rfl) ?_
    refine pz_ 4 21 q48_4 HT_ (by kernel_rfl) ?_
    refine pz_ 5 22 q48_5 HT_ (by kernel_rfl) ?_
    refine pz_ 6 23 q48_6 HT_ (by kernel_rfl) ?_
    refine tz_ 3 20 q48_7 HT_ HW_ (by kernel_rfl) hHeld ?_
    refine tz_ 7 24 q48_8 HT_ HW_ (by kernel_rfl) hHeld ?_
    refine one_ (i := 8) (N := some 25) q48_9 rfl rfl (one_of HT_.out (by kernel_rfl)) (by decide) (fun K hK => ?_)
    refine goes_ Try.func40 (by kernel_rfl) rfl #[.agg #[.int .i64 ((yaa l0 a2).f0), .int .i64 ((yaa l0 a2).f1), .int .i64 ((yaa l0 a2).f2), .int .i64 ((yaa l0 a2).f3), .slice e2 ((yaa l0 a2).f4).length e3, .slice e4 ((yaa l0 a2).f5).length e5, .slice e6 ((yaa l0 a2).f6).length e7, .slice e8 ((yaa l0 a2).f7).length e9], .agg #[.int .i64 ((yaa l1 a2).f0), .int .i64 ((yaa l1 a2).f1), .int .i64 ((yaa l1 a2).f2), .int .i64 ((yaa l1 a2).f3), .slice f8 ((yaa l1 a2).f4).length f9, .slice g0 ((yaa l1 a2).f5).length g1, .slice g2 ((yaa l1 a2).f6).length g3, .slice g4 ((yaa l1 a2).f7).length g5]] (by rfl) rfl rfl (by (try simp only [List.map_toArray, List.map_cons, List.map_nil]); first | done | rfl | (simp only [List.length_drop, List.length_take]; rfl)) ?_
    with_reducible refine (laws_eqTenState.calls k1 ((yaa l0 a2).f0) ((yaa l0 a2).f1) ((yaa l0 a2).f2) ((yaa l0 a2).f3) _ _ ((yaa l0 a2).f4) _ _ ((yaa l0 a2).f5) _ _ ((yaa l0 a2).f6) _ _ ((yaa l0 a2).f7) ((yaa l1 a2).f0) ((yaa l1 a2).f1) ((yaa l1 a2).f2) ((yaa l1 a2).f3) _ _ ((yaa l1 a2).f4) _ _ ((yaa l1 a2).f5) _ _ ((yaa l1 a2).f6) _ _ ((yaa l1 a2).f7) true _ ?side1 ?side2 ?side3 ?side4 ?side5 ?side6 ?side7 ?side8 ?side9 ?side10 ?side11 ?side12 ?side13 ?side14 ?side15 ?side16 A7.out).mono ?_
    (case side1 => repeat (first | exact (yac HR101_4.out HB.out) | (with_reducible refine yad ?_ _) | (with_reducible refine yae ?_ _) | (with_reducible refine Kd.C_drew ?_)))
    (case side2 => exact HC101_4.out)
    (case side3 => repeat (first | exact (yac HR101_5.out HB.out) | (with_reducible refine yad ?_ _) | (with_reducible refine yae ?_ _) | (with_reducible refine Kd.C_drew ?_)))
    (case side4 => exact HC101_5.out)
    (case side5 => repeat (first | exact (yac HR101_6.out HB.out) | (with_reducible refine yad ?_ _) | (with_reducible refine yae ?_ _) | (with_reducible refine Kd.C_drew ?_)))
    (case side6 => exact HC101_6.out)
    (case side7 => repeat (first | exact (yac HR101_7.out HB.out) | (with_reducible refine yad ?_ _) | (with_reducible refine yae ?_ _) | (with_reducible refine Kd.C_drew ?_)))
    (case side8 => exact HC101_7.out)
    (case side9 => repeat (first | exact (yac HR102_4.out HB.out) | (with_reducible refine yad ?_ _) | (with_reducible refine yae ?_ _) | (with_reducible refine Kd.C_drew ?_)))
    (case side10 => exact HC102_4.out)
    (case side11 => repeat (first | exact (yac HR102_5.out HB.out) | (with_reducible refine yad ?_ _) | (with_reducible refine yae ?_ _) | (with_reducible refine Kd.C_drew ?_)))
    (case side12 => exact HC102_5.out)
    (case side13 => repeat (first | exact (yac HR102_6.out HB.out) | (with_reducible refine yad ?_ _) | (with_reducible refine yae ?_ _) | (with_reducible refine Kd.C_drew ?_)))
    (case side14 => exact HC102_6.out)
    (case side15 => repeat (first | exact (yac HR102_7.out HB.out) | (with_reducible refine yad ?_ _) | (with_reducible refine yae ?_ _) | (with_reducible refine Kd.C_drew ?_)))
    (case side16 => exact HC102_7.out)
    rintro e w10 ⟨rfl, hb⟩; refine ⟨_, rfl, ?_⟩; replace HB := yab (below_step (upH HB.out) hb); (try clear hb); (try clear hb2); (try clear hk); (try clear hi)
    refine hK.out _ _ ⟨(upc_ HB.out d3 :), (upc_ HB.out d2 :), (upc_ HB.out d1 :), (upc_ HB.out d0 :), (upc_ HB.out c9 :), (upc_ HB.out c7 :), (upc_ HB.out c2 :), (upc_ HB.out b9 :), (upc_ HB.out e1 :), (upc_ HB.out e0 :), (upc_ HB.out d9 :), (upc_ HB.out d8 :), (upc_ HB.out d7 :), (upc_ HB.out d6 :), (upc_ HB.out d5 :), (upc_ HB.out d4 :)⟩ (fun hHeld => ?_)
    clear hK K
    refine norm_ (a' := ?_) ?_ ?_
    rotate_left
    ·
     show Act.put _ (some 25) _ = _
     simp only [Act.put, List.setIfInBounds_toArray, List.set_cons_zero, List.set_cons_succ, i64_w, i32_w]
     rfl
    refine pz_ 9 26 q48_10 HT_ (by kernel_rfl) ?_
    refine done_ (done_of HT_.out (by kernel_rfl)) ?_
    try go_wp2
    go_roundg k1
    case measure => have := HK1.out; omega
    case rel => exact ⟨(wrap64 (a2 + 1)), (by first | rfl | (simp; done) | (simp [*]; done)), H', ⟨by have := HK1.out; omega⟩, ⟨upH HB.out⟩⟩
   replace c8 := Bool.eq_false_iff.mpr c8
   subst c8
   rw [if_neg (show ¬ (false = true) by decide)] at H
   obtain rfl := Option.some.inj H
   try go_wp2
   replace HB := yab (below_drew1 HB.out); have p101 : 0 ≤ (a2 : Int) := of_decide_eq_true (by assumption); have q101 : a2 < (l0.length : Int) := of_decide_eq_true (by assumption); obtain ⟨ad101, e2, e3, e4, e5, e6, e7, e8, e9, g6, a3, a4, a5, a6, a7, a8, a9, b0, hl101_4, hi101_4, hl101_5, hi101_5, hl101_6, hi101_6, hl101_7, hi101_7⟩ := at_T63 HR0.out a2 p101 q101; have b9 := b0; have c2 := a9; have c7 := a8; have c9 := a7; have d0 := a6; have d1 := a5; have d2 := a4; have d3 := a3
   cases g6
   replace a3 := (upc_ HB.out a3 :); replace a4 := (upc_ HB.out a4 :); replace a5 := (upc_ HB.out a5 :); replace a6 := (upc_ HB.out a6 :); replace a7 := (upc_ HB.out a7 :); replace a8 := (upc_ HB.out a8 :); replace a9 := (upc_ HB.out a9 :); replace b0 := (upc_ HB.out b0 :); have HR101_4 := yab hi101_4; have HC101_4 := yab hl101_4; clear hi101_4 hl101_4; have HR101_5 := yab hi101_5; have HC101_5 := yab hl101_5; clear hi101_5 hl101_5; have HR101_6 := yab hi101_6; have HC101_6 := yab hl101_6; clear hi101_6 hl101_6; have HR101_7 := yab hi101_7; have HC101_7 := yab hl101_7; clear hi101_7 hl101_7; replace p101 := eq_true p101; replace q101 := eq_true q101; have p102 : 0 ≤ (a2 : Int) := of_decide_eq_true (by assumption); have q102 : a2 < (l1.length : Int) := of_decide_eq_true (by assumption); obtain ⟨ad102, f8, f9, g0, g1, g2, g3, g4, g5, g7, b1, b2, b3, b4, b5, b6, b7, b8, hl102_4, hi102_4, hl102_5, hi102_5, hl102_6, hi102_6, hl102_7, hi102_7⟩ := at_T63 HR1.out a2 p102 q102; have d4 := b8; have d5 := b7; have d6 := b6; have d7 := b5; have d8 := b4; have d9 := b3; have e0 := b2; have e1 := b1
   cases g7
   replace b1 := (upc_ HB.out b1 :); replace b2 := (upc_ HB.out b2 :); replace b3 := (upc_ HB.out b3 :); replace b4 := (upc_ HB.out b4 :); replace b5 := (upc_ HB.out b5 :); replace b6 := (upc_ HB.out b6 :); replace b7 := (upc_ HB.out b7 :); replace b8 := (upc_ HB.out b8 :); have HR102_4 := yab hi102_4; have HC102_4 := yab hl102_4; clear hi102_4 hl102_4; have HR102_5 := yab hi102_5; have HC102_5 := yab hl102_5; clear hi102_5 hl102_5; have HR102_6 := yab hi102_6; have HC102_6 := yab hl102_6; clear hi102_6 hl102_6; have HR102_7 := yab hi102_7; have HC102_7 := yab hl102_7; clear hi102_7 hl102_7; replace p102 := eq_true p102; replace q102 := eq_true q102
   refine start_ (n := 10) (S := fun w' => w'.cell? (ad101.add ((a2).toNat * 8)) = some (.int .i64 ((yaa l0 a2).f0)) ∧ w'.cell? ⟨(ad101.add ((a2).toNat * 8)).block, (ad101.add ((a2).toNat * 8)).off + 1, none⟩ = some (.int .i64 ((yaa l0 a2).f1)) ∧ w'.cell? ⟨(ad101.add ((a2).toNat * 8)).block, (ad101.add ((a2).toNat * 8)).off + 2, none⟩ = some (.int .i64 ((yaa l0 a2).f2)) ∧ w'.cell? ⟨(ad101.add ((a2).toNat * 8)).block, (ad101.add ((a2).toNat * 8)).off + 3, none⟩ = some (.int .i64 ((yaa l0 a2).f3)) ∧ w'.cell? ⟨(ad101.add ((a2).toNat * 8)).block, (ad101.add ((a2).toNat * 8)).off + 4, none⟩ = some (.slice e2 ((yaa l0 a2).f4).length e3) ∧ w'.cell? ⟨(ad101.add ((a2).toNat * 8)).block, (ad101.add ((a2).toNat * 8)).off + 5, none⟩ = some (.slice e4 ((yaa l0 a2).f5).length e5) ∧ w'.cell? ⟨(ad101.add ((a2).toNat * 8)).block, (ad101.add ((a2).toNat * 8)).off + 6, none⟩ = some (.slice e6 ((yaa l0 a2).f6).length e7) ∧ w'.cell? ⟨(ad101.add ((a2).toNat * 8)).block, (ad101.add ((a2).toNat * 8)).off + 7, none⟩ = some (.slice e8 ((yaa l0 a2).f7).length e9) ∧ w'.cell? (ad102.add ((a2).toNat * 8)) = some (.int .i64 ((yaa l1 a2).f0)) ∧ w'.cell? ⟨(ad102.add ((a2).toNat * 8)).block, (ad102.add ((a2).toNat * 8)).off + 1, none⟩ = some (.int .i64 ((yaa l1 a2).f1)) ∧ w'.cell? ⟨(ad102.add ((a2).toNat * 8)).block, (ad102.add ((a2).toNat * 8)).off + 2, none⟩ = some (.int .i64 ((yaa l1 a2).f2)) ∧ w'.cell? ⟨(ad102.add ((a2).toNat * 8)).block, (ad102.add ((a2).toNat * 8)).off + 3, none⟩ = some (.int .i64 ((yaa l1 a2).f3)) ∧ w'.cell? ⟨(ad102.add ((a2).toNat * 8)).block, (ad102.add ((a2).toNat * 8)).off + 4, none⟩ = some (.slice f8 ((yaa l1 a2).f4).length f9) ∧ w'.cell? ⟨(ad102.add ((a2).toNat * 8)).block, (ad102.add ((a2).toNat * 8)).off + 5, none⟩ = some (.slice g0 ((yaa l1 a2).f5).length g1) ∧ w'.cell? ⟨(ad102.add ((a2).toNat * 8)).block, (ad102.add ((a2).toNat * 8)).off + 6, none⟩ = some (.slice g2 ((yaa l1 a2).f6).length g3) ∧ w'.cell? ⟨(ad102.add ((a2).toNat * 8)).block, (ad102.add ((a2).toNat * 8)).off + 7, none⟩ = some (.slice g4 ((yaa l1 a2).f7).length g5)) (ds := []) q48_0 (by kernel_rfl) rfl rfl ⟨(upc_ HB.out d3 :), (upc_ HB.out d2 :), (upc_ HB.out d1 :), (upc_ HB.out d0 :), (upc_ HB.out c9 :), (upc_ HB.out c7 :), (upc_ HB.out c2 :), (upc_ HB.out b9 :), (upc_ HB.out e1 :), (upc_ HB.out e0 :), (upc_ HB.out d9 :), (upc_ HB.out d8 :), (upc_ HB.out d7 :), (upc_ HB.out d6 :), (upc_ HB.out d5 :), (upc_ HB.out d4 :)⟩ (fun hHeld => ?_); refine with_tabW laws_eqTenStateS.tab6 laws_eqTenStateS.bits6 (fun HT_ HW_ => ?_)
   generalize wr.drew = w11 at HB HR101_4 HR101_5 HR101_6 HR101_7 HR102_4 HR102_5 HR102_6 HR102_7 a3 a4 a5 a6 a7 a8 a9 b0 b1 b2 b3 b4 b5 b6 b7 b8 hHeld ⊢
   refine pz_ 0 17 q48_1 HT_ (by kernel_rfl) ?_
   refine pz_ 1 18 q48_2 HT_ (by kernel_rfl) ?_
   refine pz_ 2 19 q48_3 HT_ (by kernel_rfl) ?_
   refine pz_ 4 21 q48_4 HT_ (by kernel_rfl) ?_
   refine pz_ 5 22 q48_5 HT_ (by kernel_rfl) ?_
   refine pz_ 6 23 q48_6 HT_ (by kernel_rfl) ?_
   refine tz_ 3 20 q48_7 HT_ HW_ (by kernel_rfl) hHeld ?_
   refine tz_ 7 24 q48_8 HT_ HW_ (by kernel_rfl) hHeld ?_
   refine one_ (i := 8) (N := some 25) q48_9 rfl rfl (one_of HT_.out (by kernel_rfl)) (by decide) (fun K hK => ?_)
   refine goes_ Try.func40 (by kernel_rfl) rfl #[.agg #[.int .i64 ((yaa l0 a2).f0), .int .i64 ((yaa l0 a2).f1), .int .i64 ((yaa l0 a2).f2), .int .i64 ((yaa l0 a2).f3), .slice e2 ((yaa l0 a2).f4).length e3, .slice e4 ((yaa l0 a2).f5).length e5, .slice e6 ((yaa l0 a2).f6).length e7, .slice e8 ((yaa l0 a2).f7).length e9], .agg #[.int .i64 ((yaa l1 a2).f0), .int .i64 ((yaa l1 a2).f1), .int .i64 ((yaa l1 a2).f2), .int .i64 ((yaa l1 a2).f3), .slice f8 ((yaa l1 a2).f4).length f9, .slice g0 ((yaa l1 a2).f5).length g1, .slice g2 ((yaa l1 a2).f6).length g3, .slice g4 ((yaa l1 a2).f7).length g5]] (by rfl) rfl rfl (by (try simp only [List.map_toArray, List.map_cons, List.map_nil]); first | done | rfl | (simp only [List.length_drop, List.length_take]; rfl)) ?_
   with_reducible refine (laws_eqTenState.calls k1 ((yaa l0 a2).f0) ((yaa l0 a2).f1) ((yaa l0 a2).f2) ((yaa l0 a2).f3) _ _ ((yaa l0 a2).f4) _ _ ((yaa l0 a2).f5) _ _ ((yaa l0 a2).f6) _ _ ((yaa l0 a2).f7) ((yaa l1 a2).f0) ((yaa l1 a2).f1) ((yaa l1 a2).f2) ((yaa l1 a2).f3) _ _ ((yaa l1 a2).f4) _ _ ((yaa l1 a2).f5) _ _ ((yaa l1 a2).f6) _ _ ((yaa l1 a2).f7) false _ ?side1 ?side2 ?side3 ?side4 ?side5 ?side6 ?side7 ?side8 ?side9 ?side10 ?side11 ?side12 ?side13 ?side14 ?side15 ?side16 A7.out).mono ?_
   (case side1 => repeat (first | exact (yac HR101_4.out HB.out) | (with_reducible refine yad ?_ _) | (with_reducible refine yae ?_ _) | (with_reducible refine Kd.C_drew ?_)))
   (case side2 => exact HC101_4.out)
   (case side3 => repeat (first | exact (yac HR101_5.out HB.out) | (with_reducible refine yad ?_ _) | (with_reducible refine yae ?_ _) | (with_reducible refine Kd.C_drew ?_)))
   (case side4 => exact HC101_5.out)
   (case side5 => repeat (first | exact (yac HR101_6.out HB.out) | (with_reducible refine yad ?_ _) | (with_reducible refine yae ?_ _) | (with_reducible refine Kd.C_drew ?_)))
   (case side6 => exact HC101_6.out)
   (case side7 => repeat (first | exact (yac HR101_7.out HB.out) | (with_reducible refine yad ?_ _) | (with_reducible refine yae ?_ _) | (with_reducible refine Kd.C_drew ?_)))
   (case side8 => exact HC101_7.out)
   (case side9 => repeat (first | exact (yac HR102_4.out HB.out) | (with_reducible refine yad ?_ _) | (with_reducible refine yae ?_ _) | (with_reducible refine Kd.C_drew ?_)))
   (case side10 => exact HC102_4.out)
   (case side11 => repeat (first | exact (yac HR102_5.out HB.out) | (with_reducible refine yad ?_ _) | (with_reducible refine yae ?_ _) | (with_reducible refine Kd.C_drew ?_)))
   (case side12 => exact HC102_5.out)
   (case side13 => repeat (first | exact (yac HR102_6.out HB.out) | (with_reducible refine yad ?_ _) | (with_reducible refine yae ?_ _) | (with_reducible refine Kd.C_drew ?_)))
   (case side14 => exact HC102_6.out)
   (case side15 => repeat (first | exact (yac HR102_7.out HB.out) | (with_reducible refine yad ?_ _) | (with_reducible refine yae ?_ _) | (with_reducible refine Kd.C_drew ?_)))
   (case side16 => exact HC102_7.out)
   rintro e w12 ⟨rfl, hb⟩; refine ⟨_, rfl, ?_⟩; replace HB := yab (below_step (upH HB.out) hb); (try clear hb); (try clear hb2); (try clear hk); (try clear hi)
   refine hK.out _ _ ⟨(upc_ HB.out d3 :), (upc_ HB.out d2 :), (upc_ HB.out d1 :), (upc_ HB.out d0 :), (upc_ HB.out c9 :), (upc_ HB.out c7 :), (upc_ HB.out c2 :), (upc_ HB.out b9 :), (upc_ HB.out e1 :), (upc_ HB.out e0 :), (upc_ HB.out d9 :), (upc_ HB.out d8 :), (upc_ HB.out d7 :), (upc_ HB.out d6 :), (upc_ HB.out d5 :), (upc_ HB.out d4 :)⟩ (fun hHeld => ?_)
   clear hK K
   refine norm_ (a' := ?_) ?_ ?_
   rotate_left
   ·
    show Act.put _ (some 25) _ = _
    simp only [Act.put, List.setIfInBounds_toArray, List.set_cons_zero, List.set_cons_succ, i64_w, i32_w]
    rfl
   refine pz_ 9 26 q48_10 HT_ (by kernel_rfl) ?_
   refine done_ (done_of HT_.out (by kernel_rfl)) ?_
   try go_wp2
   go_ret
   exact ⟨by first | rfl | (simp [*, errW_none, errW_some] <;> rfl), upH HB.out⟩
end
section
open Go.Proofs.YtgpkkkmapgnhkaaW.PrintWords.Aside0 renaming mk → yaa
open Go.Proofs.YtgpkkkmapgnhkaaW.PrintWords renaming pw_below_drewN → yab, below_alloc → yac, below_drew1 → yad, below_set → yae, below_size → yaf, below_step → yag
open Go.Proofs.YtgpkkkmapgnhkaaW.PrintWords.Kd renaming C_below → yah, C_alloc → yai, C_drewN → yaj
def laws_eqTenCfg.f (k : Nat) (l0_0 : List Int) (a0_1 : Int) (a0_2 : Int) (a0_3 : Int) (a0_4 : Int) (a0_5 : Int) (a0_6 : Int) (l1_0 : List Int) (a1_1 : Int) (a1_2 : Int) (a1_3 : Int) (a1_4 : Int) (a1_5 : Int) (a1_6 : Int) : Option (Bool) := (laws_eqByteS.f k l0_0 l1_0).bind fun t103 => (if t103 = true then (if a0_1 = a1_1 then (if a0_2 = a1_2 then (if a0_3 = a1_3 then (if a0_4 = a1_4 then (if a0_5 = a1_5 then (if a0_6 = a1_6 then (some true) else (some false)) else (some false)) else (some false)) else (some false)) else (some false)) else (some false)) else (some false))
set_option maxHeartbeats 8000000 in
set_option maxRecDepth 100000 in
theorem laws_eqTenCfg.calls (k : Nat) (A0_0 : Option Addr) (c0_0 : Nat) (l0_0 : List Int) (a0_1 : Int) (a0_2 : Int) (a0_3 : Int) (a0_4 : Int) (a0_5 : Int) (a0_6 : Int) (A1_0 : Option Addr) (c1_0 : Nat) (l1_0 : List Int) (a1_1 : Int) (a1_2 : Int) (a1_3 : Int) (a1_4 : Int) (a1_5 : Int) (a1_6 : Int) (r : Bool) (w : World) (hr0_0 : Kd.C (Kd.int .u8) w A0_0 l0_0.length l0_0) (hc0_0 : l0_0.length ≤ c0_0) (hr1_0 : Kd.C (Kd.int .u8) w A1_0 l1_0.length l1_0) (hc1_0 : l1_0.length ≤ c1_0) (h : laws_eqTenCfg.f k l0_0 a0_1 a0_2 a0_3 a0_4 a0_5 a0_6 l1_0 a1_1 a1_2 a1_3 a1_4 a1_5 a1_6 = some r) :
  Calls Try.prog 19 #[.agg #[.slice A0_0 l0_0.length c0_0, .int .i64 a0_1, .int .i64 a0_2, .int .i64 a0_3, .int .i64 a0_4, .int .i64 a0_5, .int .i64 a0_6], .agg #[.slice A1_0 l1_0.length c1_0, .int .i64 a1_1, .int .i64 a1_2, .int .i64 a1_3, .int .i64 a1_4, .int .i64 a1_5, .int .i64 a1_6]] w fun e w' => e = .returned (.bool r) ∧ Below w.heap.size w w' := by
 have hu24 := Try.underlying24; have HR0_0 := yaa hr0_0; have HC0_0 := yaa hc0_0; clear hr0_0 hc0_0; have HR1_0 := yaa hr1_0; have HC1_0 := yaa hc1_0; clear hr1_0 hc1_0; have HB := yaa (Below.refl w.heap.size w); have H : ((laws_eqByteS.f k l0_0 l1_0).bind fun c3 => (if c3 = true then (if a0_1 = a1_1 then (if a0_2 = a1_2 then (if a0_3 = a1_3 then (if a0_4 = a1_4 then (if a0_5 = a1_5 then (if a0_6 = a1_6 then (some true) else (some false)) else (some false)) else (some false)) else (some false)) else (some false)) else (some false)) else (some false))) = some r := h; clear h; obtain ⟨c3, A3, H⟩ := bindA H; (try dsimp only at H)
 by_cases c4 : c3 = true
 rotate_left
 ·
  replace c4 := Bool.eq_false_iff.mpr c4
  subst c4
  rw [if_neg (show ¬ (false = true) by decide)] at H
  obtain rfl := Option.some.inj H
  go_enter Try.func19, Try.ntmps19
  go_wp2_with (first | ((with_reducible refine gd_ 2 rfl ?_); refine bx_ 2 rfl #[.slice A0_0 l0_0.length c0_0, .int .i64 a0_1, .int .i64 a0_2, .int .i64 a0_3, .int .i64 a0_4, .int .i64 a0_5, .int .i64 a0_6] 24 ?_; intro b4 hg w46 hbox hb; have b1 := yaa (hbox); have b6 := yaa ((by rw [hg]; exact (yaf (upH HB.out)) : w.heap.size ≤ b4)); replace HB := yaa (yag (upH HB.out) hb); have b9 := b6; clear hb hbox hg) | ((with_reducible refine gd_ 3 rfl ?_); refine bx_ 3 rfl #[.slice A1_0 l1_0.length c1_0, .int .i64 a1_1, .int .i64 a1_2, .int .i64 a1_3, .int .i64 a1_4, .int .i64 a1_5, .int .i64 a1_6] 24 ?_; intro b5 hg w47 hbox hb; have b3 := yaa (hbox); have b7 := yaa ((by rw [hg]; exact (yaf (by repeat (with_reducible first | exact HB.out | apply yac | apply yab | apply yad | refine yae ?_ (Aside0.out ‹_›)))) : w.heap.size ≤ b5)); replace HB := yaa (yag (by repeat (with_reducible first | exact HB.out | apply yac | apply yab | apply yad | refine yae ?_ (Aside0.out ‹_›))) hb); have c0 := b7; have b0 := yaa ((by rw [hg]; exact Nat.ne_of_lt (blk_lt (upB b1.out)) : b4 ≠ b5)); replace b1 := yaa (blk_below (upB b1.out) hb); have b2 := yaa b0.out.symm; clear hb hbox hg; have C2 := b0.out; have C3 := b2.out; obtain ⟨w9, x0, x1, x2, x3, x4, x5⟩ := cc7_ b1.out; obtain ⟨x6, x7, x8, x9, y0, y1, y2⟩ := cf7_ b1.out; obtain ⟨y3, y4, y5, y6, y7, y8, y9⟩ := cc7_ b3.out; obtain ⟨z0, z1, z2, z3, z4, z5⟩ := cf6_ b3.out; have z6 := blk_frozen b3.out 6) | ((with_reducible refine gc_ 67 rfl ?_); refine gl_ (some 9) rfl Try.func67 #[.slice A0_0 l0_0.length c0_0, .slice A1_0 l1_0.length c1_0] ?_; (with_reducible refine (laws_eqByteS.calls k _ _ l0_0 _ _ l1_0 false _ ?side1 ?side2 ?side3 ?side4 A3.out).mono ?_); (case side1 => repeat (first | exact (yah HR0_0.out HB.out) | (with_reducible refine yai ?_ _) | (with_reducible refine yaj ?_ _) | (with_reducible refine Kd.C_drew ?_))); (case side2 => exact HC0_0.out); (case side3 => repeat (first | exact (yah HR1_0.out HB.out) | (with_reducible refine yai ?_ _) | (with_reducible refine yaj ?_ _) | (with_reducible refine Kd.C_drew ?_))); (case side4 => exact HC1_0.out); rintro e w' ⟨rfl, ⟨nd, rfl⟩⟩; refine ⟨_, rfl, ?_⟩))
  go_ret
  exact ⟨by first | rfl | (simp [*, errW_none, errW_some] <;> rfl), by repeat (with_reducible first | exact HB.out | apply yac | apply yab | apply yad | refine yae ?_ (Aside0.out ‹_›))⟩
 subst c4
 rw [if_pos rfl] at H
 by_cases c5 : a0_1 = a1_1
 rotate_left
 ·
  rw [if_neg c5] at H
  have z7 := beq_eq_false_iff_ne.mpr c5; have z8 := bne_iff_ne.mpr c5; obtain rfl := Option.some.inj H
  go_enter Try.func19, Try.ntmps19
  go_wp2_with (first | ((with_reducible refine gd_ 2 rfl ?_); refine bx_ 2 rfl #[.slice A0_0 l0_0.length c0_0, .int .i64 a0_1, .int .i64 a0_2, .int .i64 a0_3, .int .i64 a0_4, .int .i64 a0_5, .int .i64 a0_6] 24 ?_; intro b4 hg w41 hbox hb; have b1 := yaa (hbox); have b6 := yaa ((by rw [hg]; exact (yaf (upH HB.out)) : w.heap.size ≤ b4)); replace HB := yaa (yag (upH HB.out) hb); have b9 := b6; clear hb hbox hg) | ((with_reducible refine gd_ 3 rfl ?_); refine bx_ 3 rfl #[.slice A1_0 l1_0.length c1_0, .int .i64 a1_1, .int .i64 a1_2, .int .i64 a1_3, .int .i64 a1_4, .int .i64 a1_5, .int .i64 a1_6] 24 ?_; intro b5 hg w42 hbox hb; have b3 := yaa (hbox); have b7 := yaa ((by rw [hg]; exact (yaf (by repeat (with_reducible first | exact HB.out | apply yac | apply yab | apply yad | refine yae ?_ (Aside0.out ‹_›)))) : w.heap.size ≤ b5)); replace HB := yaa (yag (by repeat (with_reducible first | exact HB.out | apply yac | apply yab | apply yad | refine yae ?_ (Aside0.out ‹_›))) hb); have c0 := b7; have b0 := yaa ((by rw [hg]; exact Nat.ne_of_lt (blk_lt (upB b1.out)) : b4 ≠ b5)); replace b1 := yaa (blk_below (upB b1.out) hb); have b2 := yaa b0.out.symm; clear hb hbox hg; have C0 := b0.out; have C1 := b2.out; obtain ⟨u0, u1, u2, u3, u4, u5, u6⟩ := cc7_ b1.out; obtain ⟨u7, u9, v0, v1, v2, v3, v4⟩ := cf7_ b1.out; obtain ⟨v5, v6, v7, v8, v9, w0, w1⟩ := cc7_ b3.out; obtain ⟨w2, w3, w4, w5, w6, w7⟩ := cf6_ b3.out; have w8 := blk_frozen b3.out 6) | ((with_reducible refine gc_ 67 rfl ?_); refine gl_ (some 9) rfl Try.func67 #[.slice A0_0 l0_0.length c0_0, .slice A1_0 l1_0.length c1_0] ?_; (with_reducible refine (laws_eqByteS.calls k _ _ l0_0 _ _ l1_0 true _ ?side1 ?side2 ?side3 ?side4 A3.out).mono ?_); (case side1 => repeat (first | exact (yah HR0_0.out HB.out) | (with_reducible refine yai ?_ _) | (with_reducible refine yaj ?_ _) | (with_reducible refine Kd.C_drew ?_))); (case side2 => exact HC0_0.out); (case side3 => repeat (first | exact (yah HR1_0.out HB.out) | (with_reducible refine yai ?_ _) | (with_reducible refine yaj ?_ _) | (with_reducible refine Kd.C_drew ?_))); (case side4 => exact HC1_0.out); rintro e w' ⟨rfl, ⟨nd, rfl⟩⟩; refine ⟨_, rfl, ?_⟩))
  go_ret
  exact ⟨by first | rfl | (simp [*, errW_none, errW_some] <;> rfl), by repeat (with_reducible first | exact HB.out | apply yac | apply yab | apply yad | refine yae ?_ (Aside0.out ‹_›))⟩
 rw [if_pos c5] at H
 have z7 := beq_iff_eq.mpr c5; have z8 := bne_eq_false_iff_eq.mpr c5; clear c5
 by_cases c6 : a0_2 = a1_2
 rotate_left
 ·
  rw [if_neg c6] at H
  have z9 := beq_eq_false_iff_ne.mpr c6; have A0 := bne_iff_ne.mpr c6; obtain rfl := Option.some.inj H
  go_enter Try.func19, Try.ntmps19
  go_wp2_with (first | ((with_reducible refine gd_ 2 rfl ?_); refine bx_ 2 rfl #[.slice A0_0 l0_0.length c0_0, .int .i64 a0_1, .int .i64 a0_2, .int .i64 a0_3, .int .i64 a0_4, .int .i64 a0_5, .int .i64 a0_6] 24 ?_; intro b4 hg w36 hbox hb; have b1 := yaa (hbox); have b6 := yaa ((by rw [hg]; exact (yaf (upH HB.out)) : w.heap.size ≤ b4)); replace HB := yaa (yag (upH HB.out) hb); have b9 := b6; clear hb hbox hg) | ((with_reducible refine gd_ 3 rfl ?_); refine bx_ 3 rfl #[.slice A1_0 l1_0.length c1_0, .int .i64 a1_1, .int .i64 a1_2, .int .i64 a1_3, .int .i64 a1_4, .int .i64 a1_5, .int .i64 a1_6] 24 ?_; intro b5 hg w37 hbox hb; have b3 := yaa (hbox); have b7 := yaa ((by rw [hg]; exact (yaf (by repeat (with_reducible first | exact HB.out | apply yac | apply yab | apply yad | refine yae ?_ (Aside0.out ‹_›)))) : w.heap.size ≤ b5)); replace HB := yaa (yag (by repeat (with_reducible first | exact HB.out | apply yac | apply yab | apply yad | refine yae ?_ (Aside0.out ‹_›))) hb); have c0 := b7; have b0 := yaa ((by rw [hg]; exact Nat.ne_of_lt (blk_lt (upB b1.out)) : b4 ≠ b5)); replace b1 := yaa (blk_below (upB b1.out) hb); have b2 := yaa b0.out.symm; clear hb hbox hg; have B8 := b0.out; have B9 := b2.out; obtain ⟨r2, r3, r4, r5, r6, r7, r8⟩ := cc7_ b1.out; obtain ⟨r9, s0, s1, s2, s3, s4, s5⟩ := cf7_ b1.out; obtain ⟨s6, s7, s8, s9, t0, t1, t2⟩ := cc7_ b3.out; obtain ⟨t3, t4, t5, t6, t7, t8⟩ := cf6_ b3.out; have t9 := blk_frozen b3.out 6) | ((with_reducible refine gc_ 67 rfl ?_); refine gl_ (some 9) rfl Try.func67 #[.slice A0_0 l0_0.length c0_0, .slice A1_0 l1_0.length c1_0] ?_; (with_reducible refine (laws_eqByteS.calls k _ _ l0_0 _ _ l1_0 true _ ?side1 ?side2 ?side3 ?side4 A3.out).mono ?_); (case side1 => repeat (first | exact (yah HR0_0.out HB.out) | (with_reducible refine yai ?_ _) | (with_reducible refine yaj ?_ _) | (with_reducible refine Kd.C_drew ?_))); (case side2 => exact HC0_0.out); (case side3 => repeat (first | exact (yah HR1_0.out HB.out) | (with_reducible refine yai ?_ _) | (with_reducible refine yaj ?_ _) | (with_reducible refine Kd.C_drew ?_))); (case side4 => exact HC1_0.out); rintro e w' ⟨rfl, ⟨nd, rfl⟩⟩; refine ⟨_, rfl, ?_⟩))
  go_ret
  exact ⟨by first | rfl | (simp [*, errW_none, errW_some] <;> rfl), by repeat (with_reducible first | exact HB.out | apply yac | apply yab | apply yad | refine yae ?_ (Aside0.out ‹_›))⟩
 rw [if_pos c6] at H
 have z9 := beq_iff_eq.mpr c6; have A0 := bne_eq_false_iff_eq.mpr c6; clear c6
 by_cases c7 : a0_3 = a1_3
 rotate_left
 ·
  rw [if_neg c7] at H
  have A1 := beq_eq_false_iff_ne.mpr c7; have A2 := bne_iff_ne.mpr c7; obtain rfl := Option.some.inj H
  go_enter Try.func19, Try.ntmps19
  go_wp2_with (first | ((with_reducible refine gd_ 2 rfl ?_); refine bx_ 2 rfl #[.slice A0_0 l0_0.length c0_0, .int .i64 a0_1, .int .i64 a0_2, .int .i64 a0_3, .int .i64 a0_4, .int .i64 a0_5, .int .i64 a0_6] 24 ?_; intro b4 hg w31 hbox hb; have b1 := yaa (hbox); have b6 := yaa ((by rw [hg]; exact (yaf (upH HB.out)) : w.heap.size ≤ b4)); replace HB := yaa (yag (upH HB.out) hb); have b9 := b6; clear hb hbox hg) | ((with_reducible refine gd_ 3 rfl ?_); refine bx_ 3 rfl #[.slice A1_0 l1_0.length c1_0, .int .i64 a1_1, .int .i64 a1_2, .int .i64 a1_3, .int .i64 a1_4, .int .i64 a1_5, .int .i64 a1_6] 24 ?_; intro b5 hg w32 hbox hb; have b3 := yaa (hbox); have b7 := yaa ((by rw [hg]; exact (yaf (by repeat (with_reducible first | exact HB.out | apply yac | apply yab | apply yad | refine yae ?_ (Aside0.out ‹_›)))) : w.heap.size ≤ b5)); replace HB := yaa (yag (by repeat (with_reducible first | exact HB.out | apply yac | apply yab | apply yad | refine yae ?_ (Aside0.out ‹_›))) hb); have c0 := b7; have b0 := yaa ((by rw [hg]; exact Nat.ne_of_lt (blk_lt (upB b1.out)) : b4 ≠ b5)); replace b1 := yaa (blk_below (upB b1.out) hb); have b2 := yaa b0.out.symm; clear hb hbox hg; have B6 := b0.out; have B7 := b2.out; obtain ⟨o4, o5, o6, o7, o8, o9, p0⟩ := cc7_ b1.out; obtain ⟨p1, p2, p3, p4, p5, p6, p7⟩ := cf7_ b1.out; obtain ⟨p8, p9, q0, q1, q2, q3, q4⟩ := cc7_ b3.out; obtain ⟨q5, q6, q7, q8, q9, r0⟩ := cf6_ b3.out; have r1 := blk_frozen b3.out 6) | ((with_reducible refine gc_ 67 rfl ?_); refine gl_ (some 9) rfl Try.func67 #[.slice A0_0 l0_0.length c0_0, .slice A1_0 l1_0.length c1_0] ?_; (with_reducible refine (laws_eqByteS.calls k _ _ l0_0 _ _ l1_0 true _ ?side1 ?side2 ?side3 ?side4 A3.out).mono ?_); (case side1 => repeat (first | exact (yah HR0_0.out HB.out) | (with_reducible refine yai ?_ _) | (with_reducible refine yaj ?_ _) | (with_reducible refine Kd.C_drew ?_))); (case side2 => exact HC0_0.out); (case side3 => repeat (first | exact (yah HR1_0.out HB.out) | (with_reducible refine yai ?_ _) | (with_reducible refine yaj ?_ _) | (with_reducible refine Kd.C_drew ?_))); (case side4 => exact HC1_0.out); rintro e w' ⟨rfl, ⟨nd, rfl⟩⟩; refine ⟨_, rfl, ?_⟩))
  go_ret
  exact ⟨by first | rfl | (simp [*, errW_none, errW_some] <;> rfl), by repeat (with_reducible first | exact HB.out | apply yac | apply yab | apply yad | refine yae ?_ (Aside0.out ‹_›))⟩
 rw [if_pos c7] at H
 have A1 := beq_iff_eq.mpr c7; have A2 := bne_eq_false_iff_eq.mpr c7; clear c7
 by_cases c8 : a0_4 = a1_4
 rotate_left
 ·
  rw [if_neg c8] at H
  have A4 := beq_eq_false_iff_ne.mpr c8; have A5 := bne_iff_ne.mpr c8; obtain rfl := Option.some.inj H
  go_enter Try.func19, Try.ntmps19
  go_wp2_with (first | ((with_reducible refine gd_ 2 rfl ?_); refine bx_ 2 rfl #[.slice A0_0 l0_0.length c0_0, .int .i64 a0_1, .int .i64 a0_2, .int .i64 a0_3, .int .i64 a0_4, .int .i64 a0_5, .int .i64 a0_6] 24 ?_; intro b4 hg w26 hbox hb; have b1 := yaa (hbox); have b6 := yaa ((by rw [hg]; exact (yaf (upH HB.out)) : w.heap.size ≤ b4)); replace HB := yaa (yag (upH HB.out) hb); have b9 := b6; clear hb hbox hg) | ((with_reducible refine gd_ 3 rfl ?_); refine bx_ 3 rfl #[.slice A1_0 l1_0.length c1_0, .int .i64 a1_1, .int .i64 a1_2, .int .i64 a1_3, .int .i64 a1_4, .int .i64 a1_5, .int .i64 a1_6] 24 ?_; intro b5 hg w27 hbox hb; have b3 := yaa (hbox); have b7 := yaa ((by rw [hg]; exact (yaf (by repeat (with_reducible first | exact HB.out | apply yac | apply yab | apply yad | refine yae ?_ (Aside0.out ‹_›)))) : w.heap.size ≤ b5)); replace HB := yaa (yag (by repeat (with_reducible first | exact HB.out | apply yac | apply yab | apply yad | refine yae ?_ (Aside0.out ‹_›))) hb); have c0 := b7; have b0 := yaa ((by rw [hg]; exact Nat.ne_of_lt (blk_lt (upB b1.out)) : b4 ≠ b5)); replace b1 := yaa (blk_below (upB b1.out) hb); have b2 := yaa b0.out.symm; clear hb hbox hg; have B4 := b0.out; have B5 := b2.out; obtain ⟨l6, l7, l8, l9, m0, m1, m2⟩ := cc7_ b1.out; obtain ⟨m3, m4, m5, m6, m7, m8, m9⟩ := cf7_ b1.out; obtain ⟨n0, n1, n2, n3, n4, n5, n6⟩ := cc7_ b3.out; obtain ⟨n7, n8, n9, o0, o1, o2⟩ := cf6_ b3.out; have o3 := blk_frozen b3.out 6) | ((with_reducible refine gc_ 67 rfl ?_); refine gl_ (some 9) rfl Try.func67 #[.slice A0_0 l0_0.length c0_0, .slice A1_0 l1_0.length c1_0] ?_; (with_reducible refine (laws_eqByteS.calls k _ _ l0_0 _ _ l1_0 true _ ?side1 ?side2 ?side3 ?side4 A3.out).mono ?_); (case side1 => repeat (first | exact (yah HR0_0.out HB.out) | (with_reducible refine yai ?_ _) | (with_reducible refine yaj ?_ _) | (with_reducible refine Kd.C_drew ?_))); (case side2 => exact HC0_0.out); (case side3 => repeat (first | exact (yah HR1_0.out HB.out) | (with_reducible refine yai ?_ _) | (with_reducible refine yaj ?_ _) | (with_reducible refine Kd.C_drew ?_))); (case side4 => exact HC1_0.out); rintro e w' ⟨rfl, ⟨nd, rfl⟩⟩; refine ⟨_, rfl, ?_⟩))
  go_ret
  exact ⟨by first | rfl | (simp [*, errW_none, errW_some] <;> rfl), by repeat (with_reducible first | exact HB.out | apply yac | apply yab | apply yad | refine yae ?_ (Aside0.out ‹_›))⟩
 rw [if_pos c8] at H
 have A4 := beq_iff_eq.mpr c8; have A5 := bne_eq_false_iff_eq.mpr c8; clear c8
 by_cases c9 : a0_5 = a1_5
 ·
  rw [if_pos c9] at H
  have A6 := beq_iff_eq.mpr c9; have A7 := bne_eq_false_iff_eq.mpr c9; clear c9
  by_cases c10 : a0_6 = a1_6
  ·
   rw [if_pos c10] at H
   have d0 := beq_iff_eq.mpr c10; have d1 := bne_eq_false_iff_eq.mpr c10; clear c10; obtain rfl := Option.some.inj H
   go_enter Try.func19, Try.ntmps19
   go_wp2_with (first | ((with_reducible refine gd_ 2 rfl ?_); refine bx_ 2 rfl #[.slice A0_0 l0_0.length c0_0, .int .i64 a0_1, .int .i64 a0_2, .int .i64 a0_3, .int .i64 a0_4, .int .i64 a0_5, .int .i64 a0_6] 24 ?_; intro b4 hg w11 hbox hb; have b1 := yaa (hbox); have b6 := yaa ((by rw [hg]; exact (yaf (upH HB.out)) : w.heap.size ≤ b4)); replace HB := yaa (yag (upH HB.out) hb); have b9 := b6; clear hb hbox hg) | ((with_reducible refine gd_ 3 rfl ?_); refine bx_ 3 rfl #[.slice A1_0 l1_0.length c1_0, .int .i64 a1_1, .int .i64 a1_2, .int .i64 a1_3, .int .i64 a1_4, .int .i64 a1_5, .int .i64 a1_6] 24 ?_; intro b5 hg w12 hbox hb; have b3 := yaa (hbox); have b7 := yaa ((by rw [hg]; exact (yaf (by repeat (with_reducible first | exact HB.out | apply yac | apply yab | apply yad | refine yae ?_ (Aside0.out ‹_›)))) : w.heap.size ≤ b5)); replace HB := yaa (yag (by repeat (with_reducible first | exact HB.out | apply yac | apply yab | apply yad | refine yae ?_ (Aside0.out ‹_›))) hb); have c0 := b7; have b0 := yaa ((by rw [hg]; exact Nat.ne_of_lt (blk_lt (upB b1.out)) : b4 ≠ b5)); replace b1 := yaa (blk_below (upB b1.out) hb); have b2 := yaa b0.out.symm; clear hb hbox hg; have A8 := b0.out; have A9 := b2.out; obtain ⟨d2, d3, d4, d5, d6, d7, d8⟩ := cc7_ b1.out; obtain ⟨d9, e0, e1, e2, e3, e4, e5⟩ := cf7_ b1.out; obtain ⟨e6, e7, e8, e9, f0, f1, f2⟩ := cc7_ b3.out; obtain ⟨f3, f4, f5, f6, f7, f8⟩ := cf6_ b3.out; have f9 := blk_frozen b3.out 6) | ((with_reducible refine gc_ 67 rfl ?_); refine gl_ (some 9) rfl Try.func67 #[.slice A0_0 l0_0.length c0_0, .slice A1_0 l1_0.length c1_0] ?_; (with_reducible refine (laws_eqByteS.calls k _ _ l0_0 _ _ l1_0 true _ ?side1 ?side2 ?side3 ?side4 A3.out).mono ?_); (case side1 => repeat (first | exact (yah HR0_0.out HB.out) | (with_reducible refine yai ?_ _) | (with_reducible refine yaj ?_ _) | (with_reducible refine Kd.C_drew ?_))); (case side2 => exact HC0_0.out); (case side3 => repeat (first | exact (yah HR1_0.out HB.out) | (with_reducible refine yai ?_ _) | (with_reducible refine yaj ?_ _) | (with_reducible refine Kd.C_drew ?_))); (case side4 => exact HC1_0.out); rintro e w' ⟨rfl, ⟨nd, rfl⟩⟩; refine ⟨_, rfl, ?_⟩))
   go_ret
   exact ⟨by first | rfl | (simp [*, errW_none, errW_some] <;> rfl), by repeat (with_reducible first | exact HB.out | apply yac | apply yab | apply yad | refine yae ?_ (Aside0.out ‹_›))⟩
  rw [if_neg c10] at H
  have d0 := beq_eq_false_iff_ne.mpr c10; have d1 := bne_iff_ne.mpr c10; obtain rfl := Option.some.inj H
  go_enter Try.func19, Try.ntmps19
  go_wp2_with (first | ((with_reducible refine gd_ 2 rfl ?_); refine bx_ 2 rfl #[.slice A0_0 l0_0.length c0_0, .int .i64 a0_1, .int .i64 a0_2, .int .i64 a0_3, .int .i64 a0_4, .int .i64 a0_5, .int .i64 a0_6] 24 ?_; intro b4 hg w16 hbox hb; have b1 := yaa (hbox); have b6 := yaa ((by rw [hg]; exact (yaf (upH HB.out)) : w.heap.size ≤ b4)); replace HB := yaa (yag (upH HB.out) hb); have b9 := b6; clear hb hbox hg) | ((with_reducible refine gd_ 3 rfl ?_); refine bx_ 3 rfl #[.slice A1_0 l1_0.length c1_0, .int .i64 a1_1, .int .i64 a1_2, .int .i64 a1_3, .int .i64 a1_4, .int .i64 a1_5, .int .i64 a1_6] 24 ?_; intro b5 hg w17 hbox hb; have b3 := yaa (hbox); have b7 := yaa ((by rw [hg]; exact (yaf (by repeat (with_reducible first | exact HB.out | apply yac | apply yab | apply yad | refine yae ?_ (Aside0.out ‹_›)))) : w.heap.size ≤ b5)); replace HB := yaa (yag (by repeat (with_reducible first | exact HB.out | apply yac | apply yab | apply yad | refine yae ?_ (Aside0.out ‹_›))) hb); have c0 := b7; have b0 := yaa ((by rw [hg]; exact Nat.ne_of_lt (blk_lt (upB b1.out)) : b4 ≠ b5)); replace b1 := yaa (blk_below (upB b1.out) hb); have b2 := yaa b0.out.symm; clear hb hbox hg; have B0 := b0.out; have B1 := b2.out; obtain ⟨g0, g1, g2, g3, g4, g5, g6⟩ := cc7_ b1.out; obtain ⟨g7, g8, g9, h0, h1, h2, h3⟩ := cf7_ b1.out; obtain ⟨h4, h5, h6, h7, h8, h9, i0⟩ := cc7_ b3.out; obtain ⟨i1, i2, i3, i4, i5, i6⟩ := cf6_ b3.out; have i7 := blk_frozen b3.out 6) | ((with_reducible refine gc_ 67 rfl ?_); refine gl_ (some 9) rfl Try.func67 #[.slice A0_0 l0_0.length c0_0, .slice A1_0 l1_0.length c1_0] ?_; (with_reducible refine (laws_eqByteS.calls k _ _ l0_0 _ _ l1_0 true _ ?side1 ?side2 ?side3 ?side4 A3.out).mono ?_); (case side1 => repeat (first | exact (yah HR0_0.out HB.out) | (with_reducible refine yai ?_ _) | (with_reducible refine yaj ?_ _) | (with_reducible refine Kd.C_drew ?_))); (case side2 => exact HC0_0.out); (case side3 => repeat (first | exact (yah HR1_0.out HB.out) | (with_reducible refine yai ?_ _) | (with_reducible refine yaj ?_ _) | (with_reducible refine Kd.C_drew ?_))); (case side4 => exact HC1_0.out); rintro e w' ⟨rfl, ⟨nd, rfl⟩⟩; refine ⟨_, rfl, ?_⟩))
  go_ret
  exact ⟨by first | rfl | (simp [*, errW_none, errW_some] <;> rfl), by repeat (with_reducible first | exact HB.out | apply yac | apply yab | apply yad | refine yae ?_ (Aside0.out ‹_›))⟩
 rw [if_neg c9] at H
 have A6 := beq_eq_false_iff_ne.mpr c9; have A7 := bne_iff_ne.mpr c9; obtain rfl := Option.some.inj H
 go_enter Try.func19, Try.ntmps19
 go_wp2_with (first | ((with_reducible refine gd_ 2 rfl ?_); refine bx_ 2 rfl #[.slice A0_0 l0_0.length c0_0, .int .i64 a0_1, .int .i64 a0_2, .int .i64 a0_3, .int .i64 a0_4, .int .i64 a0_5, .int .i64 a0_6] 24 ?_; intro b4 hg w21 hbox hb; have b1 := yaa (hbox); have b6 := yaa ((by rw [hg]; exact (yaf (upH HB.out)) : w.heap.size ≤ b4)); replace HB := yaa (yag (upH HB.out) hb); have b9 := b6; clear hb hbox hg) | ((with_reducible refine gd_ 3 rfl ?_); refine bx_ 3 rfl #[.slice A1_0 l1_0.length c1_0, .int .i64 a1_1, .int .i64 a1_2, .int .i64 a1_3, .int .i64 a1_4, .int .i64 a1_5, .int .i64 a1_6] 24 ?_; intro b5 hg w22 hbox hb; have b3 := yaa (hbox); have b7 := yaa ((by rw [hg]; exact (yaf (by repeat (with_reducible first | exact HB.out | apply yac | apply yab | apply yad | refine yae ?_ (Aside0.out ‹_›)))) : w.heap.size ≤ b5)); replace HB := yaa (yag (by repeat (with_reducible first | exact HB.out | apply yac | apply yab | apply yad | refine yae ?_ (Aside0.out ‹_›))) hb); have c0 := b7; have b0 := yaa ((by rw [hg]; exact Nat.ne_of_lt (blk_lt (upB b1.out)) : b4 ≠ b5)); replace b1 := yaa (blk_below (upB b1.out) hb); have b2 := yaa b0.out.symm; clear hb hbox hg; have B2 := b0.out; have B3 := b2.out; obtain ⟨i8, i9, j0, j1, j2, j3, j4⟩ := cc7_ b1.out; obtain ⟨j5, j6, j7, j8, j9, k0, k1⟩ := cf7_ b1.out; obtain ⟨k2, k3, k4, k5, k6, k7, k8⟩ := cc7_ b3.out; obtain ⟨k9, l0, l1, l2, l3, l4⟩ := cf6_ b3.out; have l5 := blk_frozen b3.out 6) | ((with_reducible refine gc_ 67 rfl ?_); refine gl_ (some 9) rfl Try.func67 #[.slice A0_0 l0_0.length c0_0, .slice A1_0 l1_0.length c1_0] ?_; (with_reducible refine (laws_eqByteS.calls k _ _ l0_0 _ _ l1_0 true _ ?side1 ?side2 ?side3 ?side4 A3.out).mono ?_); (case side1 => repeat (first | exact (yah HR0_0.out HB.out) | (with_reducible refine yai ?_ _) | (with_reducible refine yaj ?_ _) | (with_reducible refine Kd.C_drew ?_))); (case side2 => exact HC0_0.out); (case side3 => repeat (first | exact (yah HR1_0.out HB.out) | (with_reducible refine yai ?_ _) | (with_reducible refine yaj ?_ _) | (with_reducible refine Kd.C_drew ?_))); (case side4 => exact HC1_0.out); rintro e w' ⟨rfl, ⟨nd, rfl⟩⟩; refine ⟨_, rfl, ?_⟩))
 go_ret
 exact ⟨by first | rfl | (simp [*, errW_none, errW_some] <;> rfl), by repeat (with_reducible first | exact HB.out | apply yac | apply yab | apply yad | refine yae ?_ (Aside0.out ‹_›))⟩
end
section
open Go.Proofs.Ytgpkkkmapgnhkaa.X renaming rd_T24 → yaa
open Go.Proofs.YtgpkkkmapgnhkaaW.PrintWords.Aside0 renaming mk → yab
abbrev q49_0 : Array Bool := Array.replicate 10 false
abbrev q49_1 : Array Bool := #[true, false, false, false, false, false, false, false, false, false]
abbrev q49_2 : Array Bool := #[true, true, false, false, false, false, false, false, false, false]
abbrev q49_3 : Array Bool := #[true, true, true, false, false, false, false, false, false, false]
abbrev q49_4 : Array Bool := #[true, true, true, false, true, false, false, false, false, false]
abbrev q49_5 : Array Bool := #[true, true, true, false, true, true, false, false, false, false]
abbrev q49_6 : Array Bool := #[true, true, true, false, true, true, true, false, false, false]
abbrev q49_7 : Array Bool := #[true, true, true, true, true, true, true, false, false, false]
abbrev q49_8 : Array Bool := #[true, true, true, true, true, true, true, true, false, false]
abbrev q49_9 : Array Bool := #[true, true, true, true, true, true, true, true, true, false]
abbrev q49_10 : Array Bool := #[true, true, true, true, true, true, true, true, true, true]
def laws_eqTenCfgS.l0 : Nat → List (S24) → List (S24) → Int → Option (Bool)
 | 0, _, _, _ => none
 | k + 1, x0, x1, x5 => if x5 < (x0.length : Int) then (if 0 ≤ x5 then (if x5 < (x1.length : Int) then ((laws_eqTenCfg.f k ((rd_T24 x0 x5).f0) ((rd_T24 x0 x5).f1) ((rd_T24 x0 x5).f2) ((rd_T24 x0 x5).f3) ((rd_T24 x0 x5).f4) ((rd_T24 x0 x5).f5) ((rd_T24 x0 x5).f6) ((rd_T24 x1 x5).f0) ((rd_T24 x1 x5).f1) ((rd_T24 x1 x5).f2) ((rd_T24 x1 x5).f3) ((rd_T24 x1 x5).f4) ((rd_T24 x1 x5).f5) ((rd_T24 x1 x5).f6)).bind fun t103 => (if t103 = true then (laws_eqTenCfgS.l0 k x0 x1 (wrap64 (x5 + 1))) else (some false))) else (none)) else (none)) else (some true)
def laws_eqTenCfgS.f (k : Nat) (l0 : List (S24)) (l1 : List (S24)) : Option (Bool) := if (l0.length : Int) = (l1.length : Int) then (laws_eqTenCfgS.l0 k l0 l1 0) else (some false)
def laws_eqTenCfgS.T6 : Bool × List (List Nat × List Nat) := (true, [([], []), ([], []), ([0, 1], [0, 1]), ([2], [2]), ([], []), ([], []), ([4, 5], [4, 5]), ([6], [6]), ([3, 7], [3, 7]), ([8], [8])])
def laws_eqTenCfgS.B6 : List Nat := [0, 0, 3, 7, 0, 0, 48, 112, 255, 511]
theorem laws_eqTenCfgS.tab6 : rtab .any (opsOf Try.f49 6) = laws_eqTenCfgS.T6 := by kernel_rfl
theorem laws_eqTenCfgS.bits6 : waitsOk laws_eqTenCfgS.T6.2 laws_eqTenCfgS.B6 = true := by kernel_rfl
set_option maxHeartbeats 8000000 in
set_option maxRecDepth 100000 in
theorem laws_eqTenCfgS.calls (k : Nat) (A0 : Option Addr) (c0 : Nat) (l0 : List (S24)) (A1 : Option Addr) (c1 : Nat) (l1 : List (S24)) (r : Bool) (w : World) (hr0 : Kd.C k24 w A0 l0.length l0) (hc0 : l0.length ≤ c0) (hr1 : Kd.C k24 w A1 l1.length l1) (hc1 : l1.length ≤ c1) (h : laws_eqTenCfgS.f k l0 l1 = some r) :
  Calls Try.prog 49 #[.slice A0 l0.length c0, .slice A1 l1.length c1] w fun e w' => e = .returned (.bool r) ∧ Below w.heap.size w w' := by
 have hu24 := Try.underlying24; have HR0 := yab hr0; have HC0 := yab hc0; clear hr0 hc0; have HR1 := yab hr1; have HC1 := yab hc1; clear hr1 hc1; have HB := yab (Below.refl w.heap.size w); have H : (if (l0.length : Int) = (l1.length : Int) then (laws_eqTenCfgS.l0 k l0 l1 0) else (some false)) = some r := h; clear h
 by_cases c3 : (l0.length : Int) = (l1.length : Int)
 rotate_left
 ·
  rw [if_neg c3] at H
  have e4 := beq_eq_false_iff_ne.mpr c3; have e5 := bne_iff_ne.mpr c3
  have e6 : (l0.length == l1.length) = false := by first | simpa using c3 | (simp at c3 ⊢; omega)
  obtain rfl := Option.some.inj H
  go_enter Try.func49, Try.ntmps49
  go_wp2
  go_ret
  exact ⟨by first | rfl | (simp [*, errW_none, errW_some] <;> rfl), upH HB.out⟩
 rw [if_pos c3] at H
 have e4 := beq_iff_eq.mpr c3; have e5 := bne_eq_false_iff_eq.mpr c3
 have e6 : (l0.length == l1.length) = true := by first | simpa using c3 | (simp at c3 ⊢; omega)
 clear c3; have H' := yab H; clear H
 go_enter Try.func49, Try.ntmps49
 go_wp2
 (try simp only [Act.put, List.setIfInBounds_toArray, List.set_cons_zero, List.set_cons_succ])
 go_loopg [5] k (fun kq v5 w' => ∃ (a2 : Int), v5 = .int .i64 a2 ∧ Aside0 (laws_eqTenCfgS.l0 kq l0 l1 a2 = some r) ∧ Aside0 (kq ≤ k) ∧ Aside0 (Below w.heap.size w w'))
 case atStart => exact ⟨(0), (by first | rfl | (simp; done) | (simp [*]; done)), H', ⟨Nat.le_refl _⟩, ⟨upH HB.out⟩⟩
 case round =>
  clear H'; (try clear c1); (try clear p2); (try clear c3); (try clear e4); (try clear e5); (try clear e6); obtain ⟨a2, rfl, HA, HK1, HB⟩ := hrel
  cases gk with
  | zero => exact absurd HA.out (by simp [laws_eqTenCfgS.l0])
  | succ k1 =>
   have H := HA.out; clear HA
   simp only [laws_eqTenCfgS.l0] at H
   by_cases c4 : a2 < (l0.length : Int)
   rotate_left
   ·
    rw [if_neg c4] at H
    have e7 : decide (a2 < (l0.length : Int)) = false := decide_eq_false c4; clear c4; obtain rfl := Option.some.inj H
    go_wp2
    go_ret
    exact ⟨by first | rfl | (simp [*, errW_none, errW_some] <;> rfl), upH HB.out⟩
   rw [if_pos c4] at H
   have e7 : decide (a2 < (l0.length : Int)) = true := decide_eq_true c4; clear c4
   by_cases c5 : 0 ≤ a2
   rotate_left
   ·
    rw [if_neg c5] at H
    exact absurd H (by simp)
   rw [if_pos c5] at H
   replace c5 := decide_eq_true c5
   by_cases c6 : a2 < (l1.length : Int)
   rotate_left
   ·
    rw [if_neg c6] at H
    exact absurd H (by simp)
   rw [if_pos c6] at H
   replace c6 := decide_eq_true c6; obtain ⟨e8, A7, H⟩ := bindA H; (try dsimp only at H)
   by_cases c8 : e8 = true
   ·
    subst c8
    rw [if_pos rfl] at H
    have H' := yab H; clear H
    try go_wp2
    replace HB := yab (below_drew1 HB.out); have p101 : 0 ≤ (a2 : Int) := of_decide_eq_true (by assumption); have q101 : a2 < (l0.length : Int) := of_decide_eq_true (by assumption); obtain ⟨ad101, d8, d9, e2, a3, a4, a5, a6, a7, a8, a9, hl101_0, hi101_0⟩ := at_T24 HR0.out a2 p101 q101; have b7 := a9; have b8 := a8; have b9 := a7; have c2 := a6; have c7 := a5; have c9 := a4; have d0 := a3
    cases e2
    replace a3 := (upc_ HB.out a3 :); replace a4 := (upc_ HB.out a4 :); replace a5 := (upc_ HB.out a5 :); replace a6 := (upc_ HB.out a6 :); replace a7 := (upc_ HB.out a7 :); replace a8 := (upc_ HB.out a8 :); replace a9 := (upc_ HB.out a9 :); have HR101_0 := yab hi101_0; have HC101_0 := yab hl101_0; clear hi101_0 hl101_0; replace p101 := eq_true p101; replace q101 := eq_true q101; have p102 : 0 ≤ (a2 : Int) := of_decide_eq_true (by assumption); have q102 : a2 < (l1.length : Int) := of_decide_eq_true (by assumption); obtain ⟨ad102, e0, e1, e3, b0, b1, b2, b3, b4, b5, b6, hl102_0, hi102_0⟩ := at_T24 HR1.out a2 p102 q102; have d1 := b6; have d2 := b5; have d3 := b4; have d4 := b3; have d5 := b2; have d6 := b1; have d7 := b0
    cases e3
    replace b0 := (upc_ HB.out b0 :); replace b1 := (upc_ HB.out b1 :); replace b2 := (upc_ HB.out b2 :); replace b3 := (upc_ HB.out b3 :); replace b4 := (upc_ HB.out b4 :); replace b5 := (upc_ HB.out b5 :); replace b6 := (upc_ HB.out b6 :); have HR102_0 := yab hi102_0; have HC102_0 := yab hl102_0; clear hi102_0 hl102_0; replace p102 := eq_true p102; replace q102 := eq_true q102
    refine start_ (n := 10) (S := fun w' => w'.cell? (ad101.add ((a2).toNat * 7)) = some (.slice d8 ((yaa l0 a2).f0).length d9) ∧ w'.cell? ⟨(ad101.add ((a2).toNat * 7)).block, (ad101.add ((a2).toNat * 7)).off + 1, none⟩ = some (.int .i64 ((yaa l0 a2).f1)) ∧ w'.cell? ⟨(ad101.add ((a2).toNat * 7)).block, (ad101.add ((a2).toNat * 7)).off + 2, none⟩ = some (.int .i64 ((yaa l0 a2).f2)) ∧ w'.cell? ⟨(ad101.add ((a2).toNat * 7)).block, (ad101.add ((a2).toNat * 7)).off + 3, none⟩ = some (.int .i64 ((yaa l0 a2).f3)) ∧ w'.cell? ⟨(ad101.add ((a2).toNat * 7)).block, (ad101.add ((a2).toNat * 7)).off + 4, none⟩ = some (.int .i64 ((yaa l0 a2).f4)) ∧ w'.cell? ⟨(ad101.add ((a2).toNat * 7)).block, (ad101.add ((a2).toNat * 7)).off + 5, none⟩ = some (.int .i64 ((yaa l0 a2).f5)) ∧ w'.cell? ⟨(ad101.add ((a2).toNat * 7)).block, (ad101.add ((a2).toNat * 7)).off + 6, none⟩ = some (.int .i64 ((yaa l0 a2).f6)) ∧ w'.cell? (ad102.add ((a2).toNat * 7)) = some (.slice e0 ((yaa l1 a2).f0).length e1) ∧ w'.cell? ⟨(ad102.add ((a2).toNat * 7)).block, (ad102.add ((a2).toNat * 7)).off + 1, none⟩ = some (.int .i64 ((yaa l1 a2).f1)) ∧ w'.cell? ⟨(ad102.add ((a2).toNat * 7)).block, (ad102.add ((a2).toNat * 7)).off + 2, none⟩ = some (.int .i64 ((yaa l1 a2).f2)) ∧ w'.cell? ⟨(ad102.add ((a2).toNat * 7)).block, (ad102.add ((a2).toNat * 7)).off + 3, none⟩ = some (.int .i64 ((yaa l1 a2).f3)) ∧ w'.cell? ⟨(ad102.add ((a2).toNat * 7)).block, (ad102.add ((a2).toNat * 7)).off + 4, none⟩ = some (.int .i64 ((yaa l1 a2).f4)) ∧ w'.cell? ⟨(ad102.add ((a2).toNat * 7)).block, (ad102.add ((a2).toNat * 7)).off + 5, none⟩ = some (.int .i64 ((yaa l1 a2).f5)) ∧ w'.cell? ⟨(ad102.add ((a2).toNat * 7)).block, (ad102.add ((a2).toNat * 7)).off + 6, none⟩ = some (.int .i64 ((yaa l1 a2).f6))) (ds := []) q49_0 (by kernel_rfl) rfl rfl ⟨(upc_ HB.out d0 :), (upc_ HB.out c9 :), (upc_ HB.out c7 :), (upc_ HB.out c2 :), (upc_ HB.out b9 :), (upc_ HB.out b8 :), (upc_ HB.out b7 :), (upc_ HB.out d7 :), (upc_ HB.out d6 :), (upc_ HB.out d5 :), (upc_ HB.out d4 :), (upc_ HB.out d3 :), (upc_ HB.out d2 :), (upc_ HB.out d1 :)⟩ (fun hHeld => ?_); refine with_tabW laws_eqTenCfgS.tab6 laws_eqTenCfgS.bits6 (fun HT_ HW_ => ?_)
    generalize wr.drew = w9 at HB HR101_0 HR102_0 a3 a4 a5 a6 a7 a8 a9 b0 b1 b2 b3 b4 b5 b6 hHeld ⊢
    refine pz_ 0 17 q49_1 HT_ (by kernel_rfl) ?_
    refine pz_ 1 18 q49_2 HT_ (by kernel_rfl) ?_
    refine pz_ 2 19 q49_3 HT_ (by kernel_rfl) ?_
    refine pz_ 4 21 q49_4 HT_ (by kernel_rfl) ?_
    refine pz_ 5 22 q49_5 HT_ (by kernel_rfl) ?_
    refine pz_ 6 23 q49_6 HT_ (by kernel_rfl) ?_
    refine tz_ 3 20 q49_7 HT_ HW_ (by kernel_rfl) hHeld ?_
    refine tz_ 7 24 q49_8 HT_ HW_ (by kernel_rfl) hHeld ?_
    refine one_ (i := 8) (N := some 25) q49_9 rfl rfl (one_of HT_.out (by kernel_rfl)) (by decide) (fun K hK => ?_)
    refine goes_ Try.func19 (by kernel_rfl) rfl #[.agg #[.slice d8 ((yaa l0 a2).f0).length d9, .int .i64 ((yaa l0 a2).f1), .int .i64 ((yaa l0 a2).f2), .int .i64 ((yaa l0 a2).f3), .int .i64 ((yaa l0 a2).f4), .int .i64 ((yaa l0 a2).f5), .int .i64 ((yaa l0 a2).f6)], .agg #[.slice e0 ((yaa l1 a2).f0).length e1, .int .i64 ((yaa l1 a2).f1), .int .i64 ((yaa l1 a2).f2), .int .i64 ((yaa l1 a2).f3), .int .i64 ((yaa l1 a2).f4), .int .i64 ((yaa l1 a2).f5), .int .i64 ((yaa l1 a2).f6)]] (by rfl) rfl rfl (by (try simp only [List.map_toArray, List.map_cons, List.map_nil]); first | done | rfl | (simp only [List.length_drop, List.length_take]; rfl)) ?_
    with_reducible refine (laws_eqTenCfg.calls k1 _ _ ((yaa l0 a2).f0) ((yaa l0 a2).f1) ((yaa l0 a2).f2) ((yaa l0 a2).f3) ((yaa l0 a2).f4) ((yaa l0 a2).f5) ((yaa l0 a2).f6) _ _ ((yaa l1 a2).f0) ((yaa l1 a2).f1) ((yaa l1 a2).f2) ((yaa l1 a2).f3) ((yaa l1 a2).f4) ((yaa l1 a2).f5) ((yaa l1 a2).f6) true _ ?side1 ?side2 ?side3 ?side4 A7.out).mono ?_
    (case side1 => repeat (first | exact (Kd.C_below HR101_0.out HB.out) | (with_reducible refine Kd.C_alloc ?_ _) | (with_reducible refine Kd.C_drewN ?_ _) | (with_reducible refine Kd.C_drew ?_)))
    (case side2 => exact HC101_0.out)
    (case side3 => repeat (first | exact (Kd.C_below HR102_0.out HB.out) | (with_reducible refine Kd.C_alloc ?_ _) | (with_reducible refine Kd.C_drewN ?_ _) | (with_reducible refine Kd.C_drew ?_)))
    (case side4 => exact HC102_0.out)
    rintro e w10 ⟨rfl, hb⟩; refine ⟨_, rfl, ?_⟩; replace HB := yab (below_step (upH HB.out) hb); (try clear hb); (try clear hb2); (try clear hk); (try clear hi)
    refine hK.out _ _ ⟨(upc_ HB.out d0 :), (upc_ HB.out c9 :), (upc_ HB.out c7 :), (upc_ HB.out c2 :), (upc_ HB.out b9 :), (upc_ HB.out b8 :), (upc_ HB.out b7 :), (upc_ HB.out d7 :), (upc_ HB.out d6 :), (upc_ HB.out d5 :), (upc_ HB.out d4 :), (upc_ HB.out d3 :), (upc_ HB.out d2 :), (upc_ HB.out d1 :)⟩ (fun hHeld => ?_)
    clear hK K
    refine norm_ (a' := ?_) ?_ ?_
    rotate_left
    ·
     show Act.put _ (some 25) _ = _
     simp only [Act.put, List.setIfInBounds_toArray, List.set_cons_zero, List.set_cons_succ, i64_w, i32_w]
     rfl
    refine pz_ 9 26 q49_10 HT_ (by kernel_rfl) ?_
    refine done_ (done_of HT_.out (by kernel_rfl)) ?_
    try go_wp2
    go_roundg k1
    case measure => have := HK1.out; omega
    case rel => exact ⟨(wrap64 (a2 + 1)), (by first | rfl | (simp; done) | (simp [*]; done)), H', ⟨by have := HK1.out; omega⟩, ⟨upH HB.out⟩⟩
   replace c8 := Bool.eq_false_iff.mpr c8
   subst c8
   rw [if_neg (show ¬ (false = true) by decide)] at H
   obtain rfl := Option.some.inj H
   try go_wp2
   replace HB := yab (below_drew1 HB.out); have p101 : 0 ≤ (a2 : Int) := of_decide_eq_true (by assumption); have q101 : a2 < (l0.length : Int) := of_decide_eq_true (by assumption); obtain ⟨ad101, d8, d9, e2, a3, a4, a5, a6, a7, a8, a9, hl101_0, hi101_0⟩ := at_T24 HR0.out a2 p101 q101; have b7 := a9; have b8 := a8; have b9 := a7; have c2 := a6; have c7 := a5; have c9 := a4; have d0 := a3
   cases e2
   replace a3 := (upc_ HB.out a3 :); replace a4 := (upc_ HB.out a4 :); replace a5 := (upc_ HB.out a5 :); replace a6 := (upc_ HB.out a6 :); replace a7 := (upc_ HB.out a7 :); replace a8 := (upc_ HB.out a8 :); replace a9 := (upc_ HB.out a9 :); have HR101_0 := yab hi101_0; have HC101_0 := yab hl101_0; clear hi101_0 hl101_0; replace p101 := eq_true p101; replace q101 := eq_true q101; have p102 : 0 ≤ (a2 : Int) := of_decide_eq_true (by assumption); have q102 : a2 < (l1.length : Int) := of_decide_eq_true (by assumption); obtain ⟨ad102, e0, e1, e3, b0, b1, b2, b3, b4, b5, b6, hl102_0, hi102_0⟩ := at_T24 HR1.out a2 p102 q102; have d1 := b6; have d2 := b5; have d3 := b4; have d4 := b3; have d5 := b2; have d6 := b1; have d7 := b0
   cases e3
   replace b0 := (upc_ HB.out b0 :); replace b1 := (upc_ HB.out b1 :); replace b2 := (upc_ HB.out b2 :); replace b3 := (upc_ HB.out b3 :); replace b4 := (upc_ HB.out b4 :); replace b5 := (upc_ HB.out b5 :); replace b6 := (upc_ HB.out b6 :); have HR102_0 := yab hi102_0; have HC102_0 := yab hl102_0; clear hi102_0 hl102_0; replace p102 := eq_true p102; replace q102 := eq_true q102
   refine start_ (n := 10) (S := fun w' => w'.cell? (ad101.add ((a2).toNat * 7)) = some (.slice d8 ((yaa l0 a2).f0).length d9) ∧ w'.cell? ⟨(ad101.add ((a2).toNat * 7)).block, (ad101.add ((a2).toNat * 7)).off + 1, none⟩ = some (.int .i64 ((yaa l0 a2).f1)) ∧ w'.cell? ⟨(ad101.add ((a2).toNat * 7)).block, (ad101.add ((a2).toNat * 7)).off + 2, none⟩ = some (.int .i64 ((yaa l0 a2).f2)) ∧ w'.cell? ⟨(ad101.add ((a2).toNat * 7)).block, (ad101.add ((a2).toNat * 7)).off + 3, none⟩ = some (.int .i64 ((yaa l0 a2).f3)) ∧ w'.cell? ⟨(ad101.add ((a2).toNat * 7)).block, (ad101.add ((a2).toNat * 7)).off + 4, none⟩ = some (.int .i64 ((yaa l0 a2).f4)) ∧ w'.cell? ⟨(ad101.add ((a2).toNat * 7)).block, (ad101.add ((a2).toNat * 7)).off + 5, none⟩ = some (.int .i64 ((yaa l0 a2).f5)) ∧ w'.cell? ⟨(ad101.add ((a2).toNat * 7)).block, (ad101.add ((a2).toNat * 7)).off + 6, none⟩ = some (.int .i64 ((yaa l0 a2).f6)) ∧ w'.cell? (ad102.add ((a2).toNat * 7)) = some (.slice e0 ((yaa l1 a2).f0).length e1) ∧ w'.cell? ⟨(ad102.add ((a2).toNat * 7)).block, (ad102.add ((a2).toNat * 7)).off + 1, none⟩ = some (.int .i64 ((yaa l1 a2).f1)) ∧ w'.cell? ⟨(ad102.add ((a2).toNat * 7)).block, (ad102.add ((a2).toNat * 7)).off + 2, none⟩ = some (.int .i64 ((yaa l1 a2).f2)) ∧ w'.cell? ⟨(ad102.add ((a2).toNat * 7)).block, (ad102.add ((a2).toNat * 7)).off + 3, none⟩ = some (.int .i64 ((yaa l1 a2).f3)) ∧ w'.cell? ⟨(ad102.add ((a2).toNat * 7)).block, (ad102.add ((a2).toNat * 7)).off + 4, none⟩ = some (.int .i64 ((yaa l1 a2).f4)) ∧ w'.cell? ⟨(ad102.add ((a2).toNat * 7)).block, (ad102.add ((a2).toNat * 7)).off + 5, none⟩ = some (.int .i64 ((yaa l1 a2).f5)) ∧ w'.cell? ⟨(ad102.add ((a2).toNat * 7)).block, (ad102.add ((a2).toNat * 7)).off + 6, none⟩ = some (.int .i64 ((yaa l1 a2).f6))) (ds := []) q49_0 (by kernel_rfl) rfl rfl ⟨(upc_ HB.out d0 :), (upc_ HB.out c9 :), (upc_ HB.out c7 :), (upc_ HB.out c2 :), (upc_ HB.out b9 :), (upc_ HB.out b8 :), (upc_ HB.out b7 :), (upc_ HB.out d7 :), (upc_ HB.out d6 :), (upc_ HB.out d5 :), (upc_ HB.out d4 :), (upc_ HB.out d3 :), (upc_ HB.out d2 :), (upc_ HB.out d1 :)⟩ (fun hHeld => ?_); refine with_tabW laws_eqTenCfgS.tab6 laws_eqTenCfgS.bits6 (fun HT_ HW_ => ?_)
   generalize wr.drew = w11 at HB HR101_0 HR102_0 a3 a4 a5 a6 a7 a8 a9 b0 b1 b2 b3 b4 b5 b6 hHeld ⊢
   refine pz_ 0 17 q49_1 HT_ (by kernel_rfl) ?_
   refine pz_ 1 18 q49_2 HT_ (by kernel_rfl) ?_
   refine pz_ 2 19 q49_3 HT_ (by kernel_rfl) ?_
   refine pz_ 4 21 q49_4 HT_ (by kernel_rfl) ?_
   refine pz_ 5 22 q49_5 HT_ (by kernel_rfl) ?_
   refine pz_ 6 23 q49_6 HT_ (by kernel_rfl) ?_
   refine tz_ 3 20 q49_7 HT_ HW_ (by kernel_rfl) hHeld ?_
   refine tz_ 7 24 q49_8 HT_ HW_ (by kernel_rfl) hHeld ?_
   refine one_ (i := 8) (N := some 25) q49_9 rfl rfl (one_of HT_.out (by kernel_rfl)) (by decide) (fun K hK => ?_)
   refine goes_ Try.func19 (by kernel_rfl) rfl #[.agg #[.slice d8 ((yaa l0 a2).f0).length d9, .int .i64 ((yaa l0 a2).f1), .int .i64 ((yaa l0 a2).f2), .int .i64 ((yaa l0 a2).f3), .int .i64 ((yaa l0 a2).f4), .int .i64 ((yaa l0 a2).f5), .int .i64 ((yaa l0 a2).f6)], .agg #[.slice e0 ((yaa l1 a2).f0).length e1, .int .i64 ((yaa l1 a2).f1), .int .i64 ((yaa l1 a2).f2), .int .i64 ((yaa l1 a2).f3), .int .i64 ((yaa l1 a2).f4), .int .i64 ((yaa l1 a2).f5), .int .i64 ((yaa l1 a2).f6)]] (by rfl) rfl rfl (by (try simp only [List.map_toArray, List.map_cons, List.map_nil]); first | done | rfl | (simp only [List.length_drop, List.length_take]; rfl)) ?_
   with_reducible refine (laws_eqTenCfg.calls k1 _ _ ((yaa l0 a2).f0) ((yaa l0 a2).f1) ((yaa l0 a2).f2) ((yaa l0 a2).f3) ((yaa l0 a2).f4) ((yaa l0 a2).f5) ((yaa l0 a2).f6) _ _ ((yaa l1 a2).f0) ((yaa l1 a2).f1) ((yaa l1 a2).f2) ((yaa l1 a2).f3) ((yaa l1 a2).f4) ((yaa l1 a2).f5) ((yaa l1 a2).f6) false _ ?side1 ?side2 ?side3 ?side4 A7.out).mono ?_
   (case side1 => repeat (first | exact (Kd.C_below HR101_0.out HB.out) | (with_reducible refine Kd.C_alloc ?_ _) | (with_reducible refine Kd.C_drewN ?_ _) | (with_reducible refine Kd.C_drew ?_)))
   (case side2 => exact HC101_0.out)
   (case side3 => repeat (first | exact (Kd.C_below HR102_0.out HB.out) | (with_reducible refine Kd.C_alloc ?_ _) | (with_reducible refine Kd.C_drewN ?_ _) | (with_reducible refine Kd.C_drew ?_)))
   (case side4 => exact HC102_0.out)
   rintro e w12 ⟨rfl, hb⟩; refine ⟨_, rfl, ?_⟩; replace HB := yab (below_step (upH HB.out) hb); (try clear hb); (try clear hb2); (try clear hk); (try clear hi)
   refine hK.out _ _ ⟨(upc_ HB.out d0 :), (upc_ HB.out c9 :), (upc_ HB.out c7 :), (upc_ HB.out c2 :), (upc_ HB.out b9 :), (upc_ HB.out b8 :), (upc_ HB.out b7 :), (upc_ HB.out d7 :), (upc_ HB.out d6 :), (upc_ HB.out d5 :), (upc_ HB.out d4 :), (upc_ HB.out d3 :), (upc_ HB.out d2 :), (upc_ HB.out d1 :)⟩ (fun hHeld => ?_)
   clear hK K
   refine norm_ (a' := ?_) ?_ ?_
   rotate_left
   ·
    show Act.put _ (some 25) _ = _
    simp only [Act.put, List.setIfInBounds_toArray, List.set_cons_zero, List.set_cons_succ, i64_w, i32_w]
    rfl
   refine pz_ 9 26 q49_10 HT_ (by kernel_rfl) ?_
   refine done_ (done_of HT_.out (by kernel_rfl)) ?_
   try go_wp2
   go_ret
   exact ⟨by first | rfl | (simp [*, errW_none, errW_some] <;> rfl), upH HB.out⟩
end
section
def laws_szOpOpS.f (l0 : List (S148)) (a1 : Int) : Option (Int) := if (wrap64 (a1 - (l0.length : Int))) < 0 then (some (-1)) else (some (wrap64 (a1 - (l0.length : Int))))
set_option maxHeartbeats 8000000 in
set_option maxRecDepth 100000 in
theorem laws_szOpOpS.calls (A0 : Option Addr) (c0 : Nat) (l0 : List (S148)) (a1 : Int) (r : Int) (w : World) (hr0 : Kd.C k148 w A0 l0.length l0) (hc0 : l0.length ≤ c0) (h : laws_szOpOpS.f l0 a1 = some r) :
    Calls Try.prog 68 #[.slice A0 l0.length c0, .int .i64 a1] w fun e w' => e = .returned (.int .i64 r) ∧ Drawn0 w w' := by
  have HR0 := Aside0.mk hr0; have HC0 := Aside0.mk hc0; clear hr0 hc0; have H : (if (wrap64 (a1 - (l0.length : Int))) < 0 then (some (-1)) else (some (wrap64 (a1 - (l0.length : Int))))) = some r := h; clear h
  by_cases c3 : (wrap64 (a1 - (l0.length : Int))) < 0
  · rw [if_pos c3] at H
    have c3b0 : decide ((wrap64 (a1 - (l0.length : Int))) < 0) = true := decide_eq_true c3; clear c3; obtain rfl := Option.some.inj H
    go_enter Try.func68, Try.ntmps68
    go_wp2
    go_ret
    exact ⟨by first | rfl | (simp; done) | (simp [*]; done), by repeat (first | exact Drawn0.refl _ | apply Drawn0.step)⟩
  · rw [if_neg c3] at H
    have c3b0 : decide ((wrap64 (a1 - (l0.length : Int))) < 0) = false := decide_eq_false c3; clear c3; obtain rfl := Option.some.inj H
    go_enter Try.func68, Try.ntmps68
    go_wp2
    go_ret
    exact ⟨by first | rfl | (simp; done) | (simp [*]; done), by repeat (first | exact Drawn0.refl _ | apply Drawn0.step)⟩
end
section
def laws_szTenJob.f (a0_0 : Int) (a0_1 : ByteArray) (l0_2 : List (S148)) (a0_3 : Int) (a1 : Int) : Option (Int) := if (wrap64 (a1 - (a0_1.size : Int))) < 0 then (some (-1)) else ((laws_szOpOpS.f l0_2 (wrap64 (a1 - (a0_1.size : Int)))).bind fun t102 => (if t102 < 0 then (some (-1)) else (some t102)))
set_option maxHeartbeats 8000000 in
set_option maxRecDepth 100000 in
theorem laws_szTenJob.calls (a0_0 : Int) (a0_1 : ByteArray) (A0_2 : Option Addr) (c0_2 : Nat) (l0_2 : List (S148)) (a0_3 : Int) (a1 : Int) (r : Int) (w : World) (hr0_2 : Kd.C k148 w A0_2 l0_2.length l0_2) (hc0_2 : l0_2.length ≤ c0_2) (h : laws_szTenJob.f a0_0 a0_1 l0_2 a0_3 a1 = some r) :
  Calls Try.prog 135 #[.agg #[.int .i64 a0_0, .string a0_1, .slice A0_2 l0_2.length c0_2, .int .i64 a0_3], .int .i64 a1] w fun e w' => e = .returned (.int .i64 r) ∧ Below w.heap.size w w' := by
 have hu165 := Try.underlying165; have HR0_2 := Aside0.mk hr0_2; have HC0_2 := Aside0.mk hc0_2; clear hr0_2 hc0_2; have HB := Aside0.mk (Below.refl w.heap.size w); have H : (if (wrap64 (a1 - (a0_1.size : Int))) < 0 then (some (-1)) else ((laws_szOpOpS.f l0_2 (wrap64 (a1 - (a0_1.size : Int)))).bind fun a2 => (if a2 < 0 then (some (-1)) else (some a2)))) = some r := h; clear h
 by_cases c3 : (wrap64 (a1 - (a0_1.size : Int))) < 0
 ·
  rw [if_pos c3] at H
  have b6 : decide ((wrap64 (a1 - (a0_1.size : Int))) < 0) = true := decide_eq_true c3; clear c3; obtain rfl := Option.some.inj H
  go_enter Try.func135, Try.ntmps135
  go_wp2_with (first | ((with_reducible refine gd_ 2 rfl ?_); refine bx_ 2 rfl #[.int .i64 a0_0, .string a0_1, .slice A0_2 l0_2.length c0_2, .int .i64 a0_3] 165 ?_; intro a3 hg w4 hbox hb; have a0 := Aside0.mk (hbox); have a4 := Aside0.mk ((by rw [hg]; exact (below_size (upH HB.out)) : w.heap.size ≤ a3)); replace HB := Aside0.mk (below_step (upH HB.out) hb); have a5 := a4; clear hb hbox hg; obtain ⟨b7, b8, b9, c0⟩ := cc4_ a0.out; obtain ⟨c1, c2, c4⟩ := cf3_ a0.out; have c5 := blk_frozen a0.out 3))
  go_ret
  exact ⟨by first | rfl | (simp [*, errW_none, errW_some] <;> rfl), by repeat (with_reducible first | exact HB.out | apply below_alloc | apply pw_below_drewN | apply below_drew1 | refine below_set ?_ (Aside0.out ‹_›))⟩
 rw [if_neg c3] at H
 have b6 : decide ((wrap64 (a1 - (a0_1.size : Int))) < 0) = false := decide_eq_false c3; clear c3; obtain ⟨a2, A6, H⟩ := bindA H; (try dsimp only at H)
 by_cases c7 : a2 < 0
 ·
  rw [if_pos c7] at H
  have c6 : decide (a2 < 0) = true := decide_eq_true c7; clear c7; obtain rfl := Option.some.inj H
  go_enter Try.func135, Try.ntmps135
  go_wp2_with (first | ((with_reducible refine gd_ 2 rfl ?_); refine bx_ 2 rfl #[.int .i64 a0_0, .string a0_1, .slice A0_2 l0_2.length c0_2, .int .i64 a0_3] 165 ?_; intro a3 hg w8 hbox hb; have a0 := Aside0.mk (hbox); have a4 := Aside0.mk ((by rw [hg]; exact (below_size (upH HB.out)) : w.heap.size ≤ a3)); replace HB := Aside0.mk (below_step (upH HB.out) hb); have a5 := a4; clear hb hbox hg; obtain ⟨c8, c9, d0, d1⟩ := cc4_ a0.out; obtain ⟨d2, d3, d4⟩ := cf3_ a0.out; have d5 := blk_frozen a0.out 3) | ((with_reducible refine gc_ 68 rfl ?_); refine gl_ (some 15) rfl Try.func68 #[.slice A0_2 l0_2.length c0_2, .int .i64 (wrap64 (a1 - (a0_1.size : Int)))] ?_; (with_reducible refine (laws_szOpOpS.calls _ _ l0_2 (wrap64 (a1 - (a0_1.size : Int))) a2 _ ?side1 ?side2 A6.out).mono ?_); (case side1 => repeat (first | exact (Kd.C_below HR0_2.out HB.out) | (with_reducible refine Kd.C_alloc ?_ _) | (with_reducible refine Kd.C_drewN ?_ _) | (with_reducible refine Kd.C_drew ?_))); (case side2 => exact HC0_2.out); rintro e w' ⟨rfl, ⟨nd, rfl⟩⟩; refine ⟨_, rfl, ?_⟩))
  go_ret
  exact ⟨by first | rfl | (simp [*, errW_none, errW_some] <;> rfl), by repeat (with_reducible first | exact HB.out | apply below_alloc | apply pw_below_drewN | apply below_drew1 | refine below_set ?_ (Aside0.out ‹_›))⟩
 rw [if_neg c7] at H
 have c6 : decide (a2 < 0) = false := decide_eq_false c7; clear c7; obtain rfl := Option.some.inj H
 go_enter Try.func135, Try.ntmps135
 go_wp2_with (first | ((with_reducible refine gd_ 2 rfl ?_); refine bx_ 2 rfl #[.int .i64 a0_0, .string a0_1, .slice A0_2 l0_2.length c0_2, .int .i64 a0_3] 165 ?_; intro a3 hg w10 hbox hb; have a0 := Aside0.mk (hbox); have a4 := Aside0.mk ((by rw [hg]; exact (below_size (upH HB.out)) : w.heap.size ≤ a3)); replace HB := Aside0.mk (below_step (upH HB.out) hb); have a5 := a4; clear hb hbox hg; obtain ⟨a8, a9, b0, b1⟩ := cc4_ a0.out; obtain ⟨b2, b3, b4⟩ := cf3_ a0.out; have b5 := blk_frozen a0.out 3) | ((with_reducible refine gc_ 68 rfl ?_); refine gl_ (some 15) rfl Try.func68 #[.slice A0_2 l0_2.length c0_2, .int .i64 (wrap64 (a1 - (a0_1.size : Int)))] ?_; (with_reducible refine (laws_szOpOpS.calls _ _ l0_2 (wrap64 (a1 - (a0_1.size : Int))) a2 _ ?side1 ?side2 A6.out).mono ?_); (case side1 => repeat (first | exact (Kd.C_below HR0_2.out HB.out) | (with_reducible refine Kd.C_alloc ?_ _) | (with_reducible refine Kd.C_drewN ?_ _) | (with_reducible refine Kd.C_drew ?_))); (case side2 => exact HC0_2.out); rintro e w' ⟨rfl, ⟨nd, rfl⟩⟩; refine ⟨_, rfl, ?_⟩))
 go_ret
 exact ⟨by first | rfl | (simp [*, errW_none, errW_some] <;> rfl), by repeat (with_reducible first | exact HB.out | apply below_alloc | apply pw_below_drewN | apply below_drew1 | refine below_set ?_ (Aside0.out ‹_›))⟩
end
section
def laws_szTenJobS.l0 : Nat → List (S165) → Int → Int → Option (Int)
 | 0, _, _, _ => none
 | k + 1, x0, x1, x5 => if x5 < (x0.length : Int) then (if 0 ≤ x5 then ((laws_szTenJob.f ((rd_T165 x0 x5).f0) ((rd_T165 x0 x5).f1) ((rd_T165 x0 x5).f2) ((rd_T165 x0 x5).f3) x1).bind fun t102 => (if t102 < 0 then (some (-1)) else (laws_szTenJobS.l0 k x0 t102 (wrap64 (x5 + 1))))) else (none)) else (some x1)
def laws_szTenJobS.f (k : Nat) (l0 : List (S165)) (a1 : Int) : Option (Int) := if (wrap64 (a1 - (l0.length : Int))) < 0 then (some (-1)) else (laws_szTenJobS.l0 k l0 (wrap64 (a1 - (l0.length : Int))) 0)
set_option maxHeartbeats 8000000 in
set_option maxRecDepth 100000 in
theorem laws_szTenJobS.calls (k : Nat) (A0 : Option Addr) (c0 : Nat) (l0 : List (S165)) (a1 : Int) (r : Int) (w : World) (hr0 : Kd.C k165 w A0 l0.length l0) (hc0 : l0.length ≤ c0) (h : laws_szTenJobS.f k l0 a1 = some r) :
  Calls Try.prog 104 #[.slice A0 l0.length c0, .int .i64 a1] w fun e w' => e = .returned (.int .i64 r) ∧ Below w.heap.size w w' := by
 have hu165 := Try.underlying165; have HR0 := Aside0.mk hr0; have HC0 := Aside0.mk hc0; clear hr0 hc0; have HB := Aside0.mk (Below.refl w.heap.size w); have H : (if (wrap64 (a1 - (l0.length : Int))) < 0 then (some (-1)) else (laws_szTenJobS.l0 k l0 (wrap64 (a1 - (l0.length : Int))) 0)) = some r := h; clear h
 by_cases c3 : (wrap64 (a1 - (l0.length : Int))) < 0
 ·
  rw [if_pos c3] at H
  have b2 : decide ((wrap64 (a1 - (l0.length : Int))) < 0) = true := decide_eq_true c3; clear c3; obtain rfl := Option.some.inj H
  go_enter Try.func104, Try.ntmps104
  go_wp2
  go_ret
  exact ⟨by first | rfl | (simp [*, errW_none, errW_some] <;> rfl), upH HB.out⟩
 rw [if_neg c3] at H
 have b2 : decide ((wrap64 (a1 - (l0.length : Int))) < 0) = false := decide_eq_false c3; clear c3; have H' := Aside0.mk H; clear H
 go_enter Try.func104, Try.ntmps104
 go_wp2
 (try simp only [Act.put, List.setIfInBounds_toArray, List.set_cons_zero, List.set_cons_succ])
 go_loopg [1, 5] k (fun kq v1 v5 w' => ∃ (a7 : Int) (a2 : Int), v1 = .int .i64 a7 ∧ v5 = .int .i64 a2 ∧ Aside0 (laws_szTenJobS.l0 kq l0 a7 a2 = some r) ∧ Aside0 (kq ≤ k) ∧ Aside0 (Below w.heap.size w w'))
 case atStart => exact ⟨(wrap64 (a1 - (l0.length : Int))), (0), (by first | rfl | (simp; done) | (simp [*]; done)), (by first | rfl | (simp; done) | (simp [*]; done)), H', ⟨Nat.le_refl _⟩, ⟨upH HB.out⟩⟩
 case round =>
  clear H'; (try clear c1); (try clear p2); (try clear c3); (try clear b2); obtain ⟨a7, a2, rfl, rfl, HA, HK1, HB⟩ := hrel
  cases gk with
  | zero => exact absurd HA.out (by simp [laws_szTenJobS.l0])
  | succ k1 =>
   have H := HA.out; clear HA
   simp only [laws_szTenJobS.l0] at H
   by_cases c4 : a2 < (l0.length : Int)
   rotate_left
   ·
    rw [if_neg c4] at H
    have b3 : decide (a2 < (l0.length : Int)) = false := decide_eq_false c4; clear c4; obtain rfl := Option.some.inj H
    go_wp2
    go_ret
    exact ⟨by first | rfl | (simp [*, errW_none, errW_some] <;> rfl), upH HB.out⟩
   rw [if_pos c4] at H
   have b3 : decide (a2 < (l0.length : Int)) = true := decide_eq_true c4; clear c4
   by_cases c5 : 0 ≤ a2
   ·
    rw [if_pos c5] at H
    replace c5 := decide_eq_true c5; obtain ⟨b0, A6, H⟩ := bindA H; (try dsimp only at H)
    by_cases c7 : b0 < 0
    ·
     rw [if_pos c7] at H
     have b4 : decide (b0 < 0) = true := decide_eq_true c7; clear c7; obtain rfl := Option.some.inj H; have p101 : 0 ≤ (a2 : Int) := of_decide_eq_true (by assumption); have q101 : a2 < (l0.length : Int) := of_decide_eq_true (by assumption); obtain ⟨ad101, a8, a9, b1, a3, a4, a5, a6, hl101_2, hi101_2⟩ := at_T165 HR0.out a2 p101 q101
     cases b1
     replace a3 := (upc_ HB.out a3 :); replace a4 := (upc_ HB.out a4 :); replace a5 := (upc_ HB.out a5 :); replace a6 := (upc_ HB.out a6 :); have HR101_2 := Aside0.mk hi101_2; have HC101_2 := Aside0.mk hl101_2; clear hi101_2 hl101_2; replace p101 := eq_true p101; replace q101 := eq_true q101
     go_wp2_with (first | ((with_reducible refine gc_ 135 rfl ?_); refine gl_ (some 23) rfl Try.func135 #[.agg #[.int .i64 ((rd_T165 l0 a2).f0), .string ((rd_T165 l0 a2).f1), .slice a8 ((rd_T165 l0 a2).f2).length a9, .int .i64 ((rd_T165 l0 a2).f3)], .int .i64 a7] ?_; (with_reducible refine (laws_szTenJob.calls ((rd_T165 l0 a2).f0) ((rd_T165 l0 a2).f1) _ _ ((rd_T165 l0 a2).f2) ((rd_T165 l0 a2).f3) a7 b0 _ ?side1 ?side2 A6.out).mono ?_); (case side1 => repeat (first | exact (Kd.C_below HR101_2.out HB.out) | (with_reducible refine Kd.C_alloc ?_ _) | (with_reducible refine Kd.C_drewN ?_ _) | (with_reducible refine Kd.C_drew ?_))); (case side2 => exact HC101_2.out); rintro e w8 ⟨rfl, hb⟩; refine ⟨_, rfl, ?_⟩; replace HB := Aside0.mk (below_step (upH HB.out) hb); (try clear hb)))
     go_ret
     exact ⟨by first | rfl | (simp [*, errW_none, errW_some] <;> rfl), upH HB.out⟩
    rw [if_neg c7] at H
    have b4 : decide (b0 < 0) = false := decide_eq_false c7; clear c7; have H' := Aside0.mk H; clear H; have p101 : 0 ≤ (a2 : Int) := of_decide_eq_true (by assumption); have q101 : a2 < (l0.length : Int) := of_decide_eq_true (by assumption); obtain ⟨ad101, a8, a9, b1, a3, a4, a5, a6, hl101_2, hi101_2⟩ := at_T165 HR0.out a2 p101 q101
    cases b1
    replace a3 := (upc_ HB.out a3 :); replace a4 := (upc_ HB.out a4 :); replace a5 := (upc_ HB.out a5 :); replace a6 := (upc_ HB.out a6 :); have HR101_2 := Aside0.mk hi101_2; have HC101_2 := Aside0.mk hl101_2; clear hi101_2 hl101_2; replace p101 := eq_true p101; replace q101 := eq_true q101
    go_wp2_with (first | ((with_reducible refine gc_ 135 rfl ?_); refine gl_ (some 23) rfl Try.func135 #[.agg #[.int .i64 ((rd_T165 l0 a2).f0), .string ((rd_T165 l0 a2).f1), .slice a8 ((rd_T165 l0 a2).f2).length a9, .int .i64 ((rd_T165 l0 a2).f3)], .int .i64 a7] ?_; (with_reducible refine (laws_szTenJob.calls ((rd_T165 l0 a2).f0) ((rd_T165 l0 a2).f1) _ _ ((rd_T165 l0 a2).f2) ((rd_T165 l0 a2).f3) a7 b0 _ ?side1 ?side2 A6.out).mono ?_); (case side1 => repeat (first | exact (Kd.C_below HR101_2.out HB.out) | (with_reducible refine Kd.C_alloc ?_ _) | (with_reducible refine Kd.C_drewN ?_ _) | (with_reducible refine Kd.C_drew ?_))); (case side2 => exact HC101_2.out); rintro e w9 ⟨rfl, hb⟩; refine ⟨_, rfl, ?_⟩; replace HB := Aside0.mk (below_step (upH HB.out) hb); (try clear hb)))
    go_roundg k1
    case measure => have := HK1.out; omega
    case rel => exact ⟨(b0), (wrap64 (a2 + 1)), (by first | rfl | (simp; done) | (simp [*]; done)), (by first | rfl | (simp; done) | (simp [*]; done)), H', ⟨by have := HK1.out; omega⟩, ⟨upH HB.out⟩⟩
   rw [if_neg c5] at H
   exact absurd H (by simp)
end
section
def laws_szTenFile.f (a0_0 : ByteArray) (a0_1 : Int) (l0_2 : List Int) (a1 : Int) : Option (Int) := if (wrap64 (a1 - (a0_0.size : Int))) < 0 then (some (-1)) else ((laws_szByteS.f l0_2 (wrap64 (a1 - (a0_0.size : Int)))).bind fun t102 => (if t102 < 0 then (some (-1)) else (some t102)))
set_option maxHeartbeats 8000000 in
set_option maxRecDepth 100000 in
theorem laws_szTenFile.calls (a0_0 : ByteArray) (a0_1 : Int) (A0_2 : Option Addr) (c0_2 : Nat) (l0_2 : List Int) (a1 : Int) (r : Int) (w : World) (hr0_2 : Kd.C (Kd.int .u8) w A0_2 l0_2.length l0_2) (hc0_2 : l0_2.length ≤ c0_2) (h : laws_szTenFile.f a0_0 a0_1 l0_2 a1 = some r) :
  Calls Try.prog 136 #[.agg #[.string a0_0, .int .i64 a0_1, .slice A0_2 l0_2.length c0_2], .int .i64 a1] w fun e w' => e = .returned (.int .i64 r) ∧ Below w.heap.size w w' := by
 have hu167 := Try.underlying167; have HR0_2 := Aside0.mk hr0_2; have HC0_2 := Aside0.mk hc0_2; clear hr0_2 hc0_2; have HB := Aside0.mk (Below.refl w.heap.size w); have H : (if (wrap64 (a1 - (a0_0.size : Int))) < 0 then (some (-1)) else ((laws_szByteS.f l0_2 (wrap64 (a1 - (a0_0.size : Int)))).bind fun a2 => (if a2 < 0 then (some (-1)) else (some a2)))) = some r := h; clear h
 by_cases c3 : (wrap64 (a1 - (a0_0.size : Int))) < 0
 ·
  rw [if_pos c3] at H
  have b4 : decide ((wrap64 (a1 - (a0_0.size : Int))) < 0) = true := decide_eq_true c3; clear c3; obtain rfl := Option.some.inj H
  go_enter Try.func136, Try.ntmps136
  go_wp2_with (first | ((with_reducible refine gd_ 2 rfl ?_); refine bx_ 2 rfl #[.string a0_0, .int .i64 a0_1, .slice A0_2 l0_2.length c0_2] 167 ?_; intro a3 hg w4 hbox hb; have a0 := Aside0.mk (hbox); have a4 := Aside0.mk ((by rw [hg]; exact (below_size (upH HB.out)) : w.heap.size ≤ a3)); replace HB := Aside0.mk (below_step (upH HB.out) hb); have a5 := a4; clear hb hbox hg; obtain ⟨b5, b6, b7⟩ := cc3_ a0.out; obtain ⟨b8, b9⟩ := cf2_ a0.out; have c0 := blk_frozen a0.out 2))
  go_ret
  exact ⟨by first | rfl | (simp [*, errW_none, errW_some] <;> rfl), by repeat (with_reducible first | exact HB.out | apply below_alloc | apply pw_below_drewN | apply below_drew1 | refine below_set ?_ (Aside0.out ‹_›))⟩
 rw [if_neg c3] at H
 have b4 : decide ((wrap64 (a1 - (a0_0.size : Int))) < 0) = false := decide_eq_false c3; clear c3; obtain ⟨a2, A6, H⟩ := bindA H; (try dsimp only at H)
 by_cases c7 : a2 < 0
 ·
  rw [if_pos c7] at H
  have c1 : decide (a2 < 0) = true := decide_eq_true c7; clear c7; obtain rfl := Option.some.inj H
  go_enter Try.func136, Try.ntmps136
  go_wp2_with (first | ((with_reducible refine gd_ 2 rfl ?_); refine bx_ 2 rfl #[.string a0_0, .int .i64 a0_1, .slice A0_2 l0_2.length c0_2] 167 ?_; intro a3 hg w8 hbox hb; have a0 := Aside0.mk (hbox); have a4 := Aside0.mk ((by rw [hg]; exact (below_size (upH HB.out)) : w.heap.size ≤ a3)); replace HB := Aside0.mk (below_step (upH HB.out) hb); have a5 := a4; clear hb hbox hg; obtain ⟨c2, c4, c5⟩ := cc3_ a0.out; obtain ⟨c6, c8⟩ := cf2_ a0.out; have c9 := blk_frozen a0.out 2) | ((with_reducible refine gc_ 65 rfl ?_); refine gl_ (some 15) rfl Try.func65 #[.slice A0_2 l0_2.length c0_2, .int .i64 (wrap64 (a1 - (a0_0.size : Int)))] ?_; (with_reducible refine (laws_szByteS.calls _ _ l0_2 (wrap64 (a1 - (a0_0.size : Int))) a2 _ ?side1 ?side2 A6.out).mono ?_); (case side1 => repeat (first | exact (Kd.C_below HR0_2.out HB.out) | (with_reducible refine Kd.C_alloc ?_ _) | (with_reducible refine Kd.C_drewN ?_ _) | (with_reducible refine Kd.C_drew ?_))); (case side2 => exact HC0_2.out); rintro e w' ⟨rfl, ⟨nd, rfl⟩⟩; refine ⟨_, rfl, ?_⟩))
  go_ret
  exact ⟨by first | rfl | (simp [*, errW_none, errW_some] <;> rfl), by repeat (with_reducible first | exact HB.out | apply below_alloc | apply pw_below_drewN | apply below_drew1 | refine below_set ?_ (Aside0.out ‹_›))⟩
 rw [if_neg c7] at H
 have c1 : decide (a2 < 0) = false := decide_eq_false c7; clear c7; obtain rfl := Option.some.inj H
 go_enter Try.func136, Try.ntmps136
 go_wp2_with (first | ((with_reducible refine gd_ 2 rfl ?_); refine bx_ 2 rfl #[.string a0_0, .int .i64 a0_1, .slice A0_2 l0_2.length c0_2] 167 ?_; intro a3 hg w10 hbox hb; have a0 := Aside0.mk (hbox); have a4 := Aside0.mk ((by rw [hg]; exact (below_size (upH HB.out)) : w.heap.size ≤ a3)); replace HB := Aside0.mk (below_step (upH HB.out) hb); have a5 := a4; clear hb hbox hg; obtain ⟨a8, a9, b0⟩ := cc3_ a0.out; obtain ⟨b1, b2⟩ := cf2_ a0.out; have b3 := blk_frozen a0.out 2) | ((with_reducible refine gc_ 65 rfl ?_); refine gl_ (some 15) rfl Try.func65 #[.slice A0_2 l0_2.length c0_2, .int .i64 (wrap64 (a1 - (a0_0.size : Int)))] ?_; (with_reducible refine (laws_szByteS.calls _ _ l0_2 (wrap64 (a1 - (a0_0.size : Int))) a2 _ ?side1 ?side2 A6.out).mono ?_); (case side1 => repeat (first | exact (Kd.C_below HR0_2.out HB.out) | (with_reducible refine Kd.C_alloc ?_ _) | (with_reducible refine Kd.C_drewN ?_ _) | (with_reducible refine Kd.C_drew ?_))); (case side2 => exact HC0_2.out); rintro e w' ⟨rfl, ⟨nd, rfl⟩⟩; refine ⟨_, rfl, ?_⟩))
 go_ret
 exact ⟨by first | rfl | (simp [*, errW_none, errW_some] <;> rfl), by repeat (with_reducible first | exact HB.out | apply below_alloc | apply pw_below_drewN | apply below_drew1 | refine below_set ?_ (Aside0.out ‹_›))⟩
end
section
def laws_szTenFileS.l0 : Nat → List (S167) → Int → Int → Option (Int)
 | 0, _, _, _ => none
 | k + 1, x0, x1, x5 => if x5 < (x0.length : Int) then (if 0 ≤ x5 then ((laws_szTenFile.f ((rd_T167 x0 x5).f0) ((rd_T167 x0 x5).f1) ((rd_T167 x0 x5).f2) x1).bind fun t102 => (if t102 < 0 then (some (-1)) else (laws_szTenFileS.l0 k x0 t102 (wrap64 (x5 + 1))))) else (none)) else (some x1)
def laws_szTenFileS.f (k : Nat) (l0 : List (S167)) (a1 : Int) : Option (Int) := if (wrap64 (a1 - (l0.length : Int))) < 0 then (some (-1)) else (laws_szTenFileS.l0 k l0 (wrap64 (a1 - (l0.length : Int))) 0)
set_option maxHeartbeats 8000000 in
set_option maxRecDepth 100000 in
theorem laws_szTenFileS.calls (k : Nat) (A0 : Option Addr) (c0 : Nat) (l0 : List (S167)) (a1 : Int) (r : Int) (w : World) (hr0 : Kd.C k167 w A0 l0.length l0) (hc0 : l0.length ≤ c0) (h : laws_szTenFileS.f k l0 a1 = some r) :
  Calls Try.prog 105 #[.slice A0 l0.length c0, .int .i64 a1] w fun e w' => e = .returned (.int .i64 r) ∧ Below w.heap.size w w' := by
 have hu167 := Try.underlying167; have HR0 := Aside0.mk hr0; have HC0 := Aside0.mk hc0; clear hr0 hc0; have HB := Aside0.mk (Below.refl w.heap.size w); have H : (if (wrap64 (a1 - (l0.length : Int))) < 0 then (some (-1)) else (laws_szTenFileS.l0 k l0 (wrap64 (a1 - (l0.length : Int))) 0)) = some r := h; clear h
 by_cases c3 : (wrap64 (a1 - (l0.length : Int))) < 0
 ·
  rw [if_pos c3] at H
  have b1 : decide ((wrap64 (a1 - (l0.length : Int))) < 0) = true := decide_eq_true c3; clear c3; obtain rfl := Option.some.inj H
  go_enter Try.func105, Try.ntmps105
  go_wp2
  go_ret
  exact ⟨by first | rfl | (simp [*, errW_none, errW_some] <;> rfl), upH HB.out⟩
 rw [if_neg c3] at H
 have b1 : decide ((wrap64 (a1 - (l0.length : Int))) < 0) = false := decide_eq_false c3; clear c3; have H' := Aside0.mk H; clear H
 go_enter Try.func105, Try.ntmps105
 go_wp2
 (try simp only [Act.put, List.setIfInBounds_toArray, List.set_cons_zero, List.set_cons_succ])
 go_loopg [1, 5] k (fun kq v1 v5 w' => ∃ (a6 : Int) (a2 : Int), v1 = .int .i64 a6 ∧ v5 = .int .i64 a2 ∧ Aside0 (laws_szTenFileS.l0 kq l0 a6 a2 = some r) ∧ Aside0 (kq ≤ k) ∧ Aside0 (Below w.heap.size w w'))
 case atStart => exact ⟨(wrap64 (a1 - (l0.length : Int))), (0), (by first | rfl | (simp; done) | (simp [*]; done)), (by first | rfl | (simp; done) | (simp [*]; done)), H', ⟨Nat.le_refl _⟩, ⟨upH HB.out⟩⟩
 case round =>
  clear H'; (try clear c1); (try clear p2); (try clear c3); (try clear b1); obtain ⟨a6, a2, rfl, rfl, HA, HK1, HB⟩ := hrel
  cases gk with
  | zero => exact absurd HA.out (by simp [laws_szTenFileS.l0])
  | succ k1 =>
   have H := HA.out; clear HA
   simp only [laws_szTenFileS.l0] at H
   by_cases c4 : a2 < (l0.length : Int)
   rotate_left
   ·
    rw [if_neg c4] at H
    have b2 : decide (a2 < (l0.length : Int)) = false := decide_eq_false c4; clear c4; obtain rfl := Option.some.inj H
    go_wp2
    go_ret
    exact ⟨by first | rfl | (simp [*, errW_none, errW_some] <;> rfl), upH HB.out⟩
   rw [if_pos c4] at H
   have b2 : decide (a2 < (l0.length : Int)) = true := decide_eq_true c4; clear c4
   by_cases c5 : 0 ≤ a2
   ·
    rw [if_pos c5] at H
    replace c5 := decide_eq_true c5; obtain ⟨a9, A6, H⟩ := bindA H; (try dsimp only at H)
    by_cases c7 : a9 < 0
    ·
     rw [if_pos c7] at H
     have b3 : decide (a9 < 0) = true := decide_eq_true c7; clear c7; obtain rfl := Option.some.inj H; have p101 : 0 ≤ (a2 : Int) := of_decide_eq_true (by assumption); have q101 : a2 < (l0.length : Int) := of_decide_eq_true (by assumption); obtain ⟨ad101, a7, a8, b0, a3, a4, a5, hl101_2, hi101_2⟩ := at_T167 HR0.out a2 p101 q101
     cases b0
     replace a3 := (upc_ HB.out a3 :); replace a4 := (upc_ HB.out a4 :); replace a5 := (upc_ HB.out a5 :); have HR101_2 := Aside0.mk hi101_2; have HC101_2 := Aside0.mk hl101_2; clear hi101_2 hl101_2; replace p101 := eq_true p101; replace q101 := eq_true q101
     go_wp2_with (first | ((with_reducible refine gc_ 136 rfl ?_); refine gl_ (some 23) rfl Try.func136 #[.agg #[.string ((rd_T167 l0 a2).f0), .int .i64 ((rd_T167 l0 a2).f1), .slice a7 ((rd_T167 l0 a2).f2).length a8], .int .i64 a6] ?_; (with_reducible refine (laws_szTenFile.calls ((rd_T167 l0 a2).f0) ((rd_T167 l0 a2).f1) _ _ ((rd_T167 l0 a2).f2) a6 a9 _ ?side1 ?side2 A6.out).mono ?_); (case side1 => repeat (first | exact (Kd.C_below HR101_2.out HB.out) | (with_reducible refine Kd.C_alloc ?_ _) | (with_reducible refine Kd.C_drewN ?_ _) | (with_reducible refine Kd.C_drew ?_))); (case side2 => exact HC101_2.out); rintro e w8 ⟨rfl, hb⟩; refine ⟨_, rfl, ?_⟩; replace HB := Aside0.mk (below_step (upH HB.out) hb); (try clear hb)))
     go_ret
     exact ⟨by first | rfl | (simp [*, errW_none, errW_some] <;> rfl), upH HB.out⟩
    rw [if_neg c7] at H
    have b3 : decide (a9 < 0) = false := decide_eq_false c7; clear c7; have H' := Aside0.mk H; clear H; have p101 : 0 ≤ (a2 : Int) := of_decide_eq_true (by assumption); have q101 : a2 < (l0.length : Int) := of_decide_eq_true (by assumption); obtain ⟨ad101, a7, a8, b0, a3, a4, a5, hl101_2, hi101_2⟩ := at_T167 HR0.out a2 p101 q101
    cases b0
    replace a3 := (upc_ HB.out a3 :); replace a4 := (upc_ HB.out a4 :); replace a5 := (upc_ HB.out a5 :); have HR101_2 := Aside0.mk hi101_2; have HC101_2 := Aside0.mk hl101_2; clear hi101_2 hl101_2; replace p101 := eq_true p101; replace q101 := eq_true q101
    go_wp2_with (first | ((with_reducible refine gc_ 136 rfl ?_); refine gl_ (some 23) rfl Try.func136 #[.agg #[.string ((rd_T167 l0 a2).f0), .int .i64 ((rd_T167 l0 a2).f1), .slice a7 ((rd_T167 l0 a2).f2).length a8], .int .i64 a6] ?_; (with_reducible refine (laws_szTenFile.calls ((rd_T167 l0 a2).f0) ((rd_T167 l0 a2).f1) _ _ ((rd_T167 l0 a2).f2) a6 a9 _ ?side1 ?side2 A6.out).mono ?_); (case side1 => repeat (first | exact (Kd.C_below HR101_2.out HB.out) | (with_reducible refine Kd.C_alloc ?_ _) | (with_reducible refine Kd.C_drewN ?_ _) | (with_reducible refine Kd.C_drew ?_))); (case side2 => exact HC101_2.out); rintro e w9 ⟨rfl, hb⟩; refine ⟨_, rfl, ?_⟩; replace HB := Aside0.mk (below_step (upH HB.out) hb); (try clear hb)))
    go_roundg k1
    case measure => have := HK1.out; omega
    case rel => exact ⟨(a9), (wrap64 (a2 + 1)), (by first | rfl | (simp; done) | (simp [*]; done)), (by first | rfl | (simp; done) | (simp [*]; done)), H', ⟨by have := HK1.out; omega⟩, ⟨upH HB.out⟩⟩
   rw [if_neg c5] at H
   exact absurd H (by simp)
end
section
def laws_szStringS.l0 : Nat → List ByteArray → Int → Int → Option (Int)
 | 0, _, _, _ => none
 | k + 1, x0, x1, x5 => if x5 < (x0.length : Int) then (if 0 ≤ x5 then (if (wrap64 (x1 - ((rdOf ByteArray.empty x0 x5).size : Int))) < 0 then (some (-1)) else (laws_szStringS.l0 k x0 (wrap64 (x1 - ((rdOf ByteArray.empty x0 x5).size : Int))) (wrap64 (x5 + 1)))) else (none)) else (some x1)
def laws_szStringS.f (k : Nat) (l0 : List ByteArray) (a1 : Int) : Option (Int) := if (wrap64 (a1 - (l0.length : Int))) < 0 then (some (-1)) else (laws_szStringS.l0 k l0 (wrap64 (a1 - (l0.length : Int))) 0)
set_option maxHeartbeats 8000000 in
set_option maxRecDepth 100000 in
theorem laws_szStringS.calls (k : Nat) (A0 : Option Addr) (c0 : Nat) (l0 : List ByteArray) (a1 : Int) (r : Int) (w : World) (hr0 : Kd.C Kd.string w A0 l0.length l0) (hc0 : l0.length ≤ c0) (h : laws_szStringS.f k l0 a1 = some r) :
  Calls Try.prog 106 #[.slice A0 l0.length c0, .int .i64 a1] w fun e w' => e = .returned (.int .i64 r) ∧ Drawn0 w w' := by
 have HR0 := Aside0.mk hr0; have HC0 := Aside0.mk hc0; clear hr0 hc0; have H : (if (wrap64 (a1 - (l0.length : Int))) < 0 then (some (-1)) else (laws_szStringS.l0 k l0 (wrap64 (a1 - (l0.length : Int))) 0)) = some r := h; clear h
 by_cases c3 : (wrap64 (a1 - (l0.length : Int))) < 0
 ·
  rw [if_pos c3] at H
  have a6 : decide ((wrap64 (a1 - (l0.length : Int))) < 0) = true := decide_eq_true c3; clear c3; obtain rfl := Option.some.inj H
  go_enter Try.func106, Try.ntmps106
  go_wp2
  go_ret
  exact ⟨by first | rfl | (simp; done) | (simp [*]; done), by repeat (first | exact Drawn0.refl _ | apply Drawn0.step)⟩
 rw [if_neg c3] at H
 have a6 : decide ((wrap64 (a1 - (l0.length : Int))) < 0) = false := decide_eq_false c3; clear c3; have H' := Aside0.mk H; clear H
 go_enter Try.func106, Try.ntmps106
 go_wp2
 (try simp only [Act.put, List.setIfInBounds_toArray, List.set_cons_zero, List.set_cons_succ])
 go_loopg [1, 5] k (fun kq v1 v5 w' => ∃ (a3 : Int) (a2 : Int), v1 = .int .i64 a3 ∧ v5 = .int .i64 a2 ∧ Aside0 (laws_szStringS.l0 kq l0 a3 a2 = some r) ∧ Aside0 (kq ≤ k) ∧ Drawn0 w w')
 case atStart => exact ⟨(wrap64 (a1 - (l0.length : Int))), (0), (by first | rfl | (simp; done) | (simp [*]; done)), (by first | rfl | (simp; done) | (simp [*]; done)), H', ⟨Nat.le_refl _⟩, by repeat (first | exact Drawn0.refl _ | apply Drawn0.step)⟩
 case round =>
  clear H'; (try clear c1); (try clear p2); (try clear c3); (try clear a6); obtain ⟨a3, a2, rfl, rfl, HA, HK1, ⟨m1, rfl⟩⟩ := hrel
  cases gk with
  | zero => exact absurd HA.out (by simp [laws_szStringS.l0])
  | succ k1 =>
   have H := HA.out; clear HA
   simp only [laws_szStringS.l0] at H
   by_cases c4 : a2 < (l0.length : Int)
   rotate_left
   ·
    rw [if_neg c4] at H
    have a7 : decide (a2 < (l0.length : Int)) = false := decide_eq_false c4; clear c4; obtain rfl := Option.some.inj H
    go_wp2
    go_ret
    exact ⟨by first | rfl | (simp; done) | (simp [*]; done), by repeat (first | exact Drawn0.refl _ | apply Drawn0.step)⟩
   rw [if_pos c4] at H
   have a7 : decide (a2 < (l0.length : Int)) = true := decide_eq_true c4; clear c4
   by_cases c5 : 0 ≤ a2
   ·
    rw [if_pos c5] at H
    replace c5 := decide_eq_true c5
    by_cases c6 : (wrap64 (a3 - ((rdOf ByteArray.empty l0 a2).size : Int))) < 0
    ·
     rw [if_pos c6] at H
     have a8 : decide ((wrap64 (a3 - ((rdOf ByteArray.empty l0 a2).size : Int))) < 0) = true := decide_eq_true c6; clear c6; obtain rfl := Option.some.inj H; have p101 : 0 ≤ (a2 : Int) := of_decide_eq_true (by assumption); have q101 : a2 < (l0.length : Int) := of_decide_eq_true (by assumption); obtain ⟨ad101, a5, a4⟩ := Kd.at_string HR0.out a2 p101 q101
     cases a5
     replace p101 := eq_true p101; replace q101 := eq_true q101
     go_wp2
     go_ret
     exact ⟨by first | rfl | (simp; done) | (simp [*]; done), by repeat (first | exact Drawn0.refl _ | apply Drawn0.step)⟩
    rw [if_neg c6] at H
    have a8 : decide ((wrap64 (a3 - ((rdOf ByteArray.empty l0 a2).size : Int))) < 0) = false := decide_eq_false c6; clear c6; have H' := Aside0.mk H; clear H; have p101 : 0 ≤ (a2 : Int) := of_decide_eq_true (by assumption); have q101 : a2 < (l0.length : Int) := of_decide_eq_true (by assumption); obtain ⟨ad101, a5, a4⟩ := Kd.at_string HR0.out a2 p101 q101
    cases a5
    replace p101 := eq_true p101; replace q101 := eq_true q101
    go_wp2
    go_roundg k1
    case measure => have := HK1.out; omega
    case rel => exact ⟨(wrap64 (a3 - ((rdOf ByteArray.empty l0 a2).size : Int))), (wrap64 (a2 + 1)), (by first | rfl | (simp; done) | (simp [*]; done)), (by first | rfl | (simp; done) | (simp [*]; done)), H', ⟨by have := HK1.out; omega⟩, by repeat (first | exact Drawn0.refl _ | apply Drawn0.step)⟩
   rw [if_neg c5] at H
   exact absurd H (by simp)
end
section
def laws_szTenOut.f (a0_0 : Int) (a0_1 : Int) (l0_2 : List Int) (a1 : Int) : Option (Int) := (laws_szByteS.f l0_2 a1).bind fun t102 => (if t102 < 0 then (some (-1)) else (some t102))
set_option maxHeartbeats 8000000 in
set_option maxRecDepth 100000 in
theorem laws_szTenOut.calls (a0_0 : Int) (a0_1 : Int) (A0_2 : Option Addr) (c0_2 : Nat) (l0_2 : List Int) (a1 : Int) (r : Int) (w : World) (hr0_2 : Kd.C (Kd.int .u8) w A0_2 l0_2.length l0_2) (hc0_2 : l0_2.length ≤ c0_2) (h : laws_szTenOut.f a0_0 a0_1 l0_2 a1 = some r) :
    Calls Try.prog 137 #[.agg #[.int .i64 a0_0, .int .i64 a0_1, .slice A0_2 l0_2.length c0_2], .int .i64 a1] w fun e w' => e = .returned (.int .i64 r) ∧ Below w.heap.size w w' := by
  have hu169 := Try.underlying169; have HR0_2 := Aside0.mk hr0_2; have HC0_2 := Aside0.mk hc0_2; clear hr0_2 hc0_2; have HB := Aside0.mk (Below.refl w.heap.size w); have H : ((laws_szByteS.f l0_2 a1).bind fun t102 => (if t102 < 0 then (some (-1)) else (some t102))) = some r := h; clear h; obtain ⟨t102, A3, H⟩ := bindA H; (try dsimp only at H)
  by_cases c4 : t102 < 0
  · rw [if_pos c4] at H
    have c4b0 : decide (t102 < 0) = true := decide_eq_true c4; clear c4; obtain rfl := Option.some.inj H
    go_enter Try.func137, Try.ntmps137
    go_wp2_with (first | ((with_reducible refine gd_ 2 rfl ?_); refine bx_ 2 rfl #[.int .i64 a0_0, .int .i64 a0_1, .slice A0_2 l0_2.length c0_2] 169 ?_; intro gb101 hg w5 hbox hb; have BK101 := Aside0.mk (hbox); have GW101 := Aside0.mk ((by rw [hg]; exact (below_size (upH HB.out)) : w.heap.size ≤ gb101)); replace HB := Aside0.mk (below_step (upH HB.out) hb); have GE101 := GW101; clear hb hbox hg; obtain ⟨hcz6_0, hcz6_1, hcz6_2⟩ := cc3_ BK101.out; obtain ⟨hfz6_0, hfz6_1⟩ := cf2_ BK101.out; have hfz6_2 := blk_frozen BK101.out 2) | ((with_reducible refine gc_ 65 rfl ?_); refine gl_ (some 8) rfl Try.func65 #[.slice A0_2 l0_2.length c0_2, .int .i64 a1] ?_; (with_reducible refine (laws_szByteS.calls _ _ l0_2 a1 t102 _ ?side1 ?side2 A3.out).mono ?_); (case side1 => repeat (first | exact (Kd.C_below HR0_2.out HB.out) | (with_reducible refine Kd.C_alloc ?_ _) | (with_reducible refine Kd.C_drewN ?_ _) | (with_reducible refine Kd.C_drew ?_))); (case side2 => exact HC0_2.out); rintro e w' ⟨rfl, ⟨nd, rfl⟩⟩; refine ⟨_, rfl, ?_⟩))
    go_ret
    exact ⟨by first | rfl | (simp [*, errW_none, errW_some] <;> rfl), by repeat (with_reducible first | exact HB.out | apply below_alloc | apply pw_below_drewN | apply below_drew1 | refine below_set ?_ (Aside0.out ‹_›))⟩
  · rw [if_neg c4] at H
    have c4b0 : decide (t102 < 0) = false := decide_eq_false c4; clear c4; obtain rfl := Option.some.inj H
    go_enter Try.func137, Try.ntmps137
    go_wp2_with (first | ((with_reducible refine gd_ 2 rfl ?_); refine bx_ 2 rfl #[.int .i64 a0_0, .int .i64 a0_1, .slice A0_2 l0_2.length c0_2] 169 ?_; intro gb101 hg w7 hbox hb; have BK101 := Aside0.mk (hbox); have GW101 := Aside0.mk ((by rw [hg]; exact (below_size (upH HB.out)) : w.heap.size ≤ gb101)); replace HB := Aside0.mk (below_step (upH HB.out) hb); have GE101 := GW101; clear hb hbox hg; obtain ⟨hcz8_0, hcz8_1, hcz8_2⟩ := cc3_ BK101.out; obtain ⟨hfz8_0, hfz8_1⟩ := cf2_ BK101.out; have hfz8_2 := blk_frozen BK101.out 2) | ((with_reducible refine gc_ 65 rfl ?_); refine gl_ (some 8) rfl Try.func65 #[.slice A0_2 l0_2.length c0_2, .int .i64 a1] ?_; (with_reducible refine (laws_szByteS.calls _ _ l0_2 a1 t102 _ ?side1 ?side2 A3.out).mono ?_); (case side1 => repeat (first | exact (Kd.C_below HR0_2.out HB.out) | (with_reducible refine Kd.C_alloc ?_ _) | (with_reducible refine Kd.C_drewN ?_ _) | (with_reducible refine Kd.C_drew ?_))); (case side2 => exact HC0_2.out); rintro e w' ⟨rfl, ⟨nd, rfl⟩⟩; refine ⟨_, rfl, ?_⟩))
    go_ret
    exact ⟨by first | rfl | (simp [*, errW_none, errW_some] <;> rfl), by repeat (with_reducible first | exact HB.out | apply below_alloc | apply pw_below_drewN | apply below_drew1 | refine below_set ?_ (Aside0.out ‹_›))⟩
end
section
def laws_szTenOutS.l0 : Nat → List (S169) → Int → Int → Option (Int)
 | 0, _, _, _ => none
 | k + 1, x0, x1, x5 => if x5 < (x0.length : Int) then (if 0 ≤ x5 then ((laws_szTenOut.f ((rd_T169 x0 x5).f0) ((rd_T169 x0 x5).f1) ((rd_T169 x0 x5).f2) x1).bind fun t102 => (if t102 < 0 then (some (-1)) else (laws_szTenOutS.l0 k x0 t102 (wrap64 (x5 + 1))))) else (none)) else (some x1)
def laws_szTenOutS.f (k : Nat) (l0 : List (S169)) (a1 : Int) : Option (Int) := if (wrap64 (a1 - (l0.length : Int))) < 0 then (some (-1)) else (laws_szTenOutS.l0 k l0 (wrap64 (a1 - (l0.length : Int))) 0)
set_option maxHeartbeats 8000000 in
set_option maxRecDepth 100000 in
theorem laws_szTenOutS.calls (k : Nat) (A0 : Option Addr) (c0 : Nat) (l0 : List (S169)) (a1 : Int) (r : Int) (w : World) (hr0 : Kd.C k169 w A0 l0.length l0) (hc0 : l0.length ≤ c0) (h : laws_szTenOutS.f k l0 a1 = some r) :
  Calls Try.prog 107 #[.slice A0 l0.length c0, .int .i64 a1] w fun e w' => e = .returned (.int .i64 r) ∧ Below w.heap.size w w' := by
 have hu169 := Try.underlying169; have HR0 := Aside0.mk hr0; have HC0 := Aside0.mk hc0; clear hr0 hc0; have HB := Aside0.mk (Below.refl w.heap.size w); have H : (if (wrap64 (a1 - (l0.length : Int))) < 0 then (some (-1)) else (laws_szTenOutS.l0 k l0 (wrap64 (a1 - (l0.length : Int))) 0)) = some r := h; clear h
 by_cases c3 : (wrap64 (a1 - (l0.length : Int))) < 0
 ·
  rw [if_pos c3] at H
  have b1 : decide ((wrap64 (a1 - (l0.length : Int))) < 0) = true := decide_eq_true c3; clear c3; obtain rfl := Option.some.inj H
  go_enter Try.func107, Try.ntmps107
  go_wp2
  go_ret
  exact ⟨by first | rfl | (simp [*, errW_none, errW_some] <;> rfl), upH HB.out⟩
 rw [if_neg c3] at H
 have b1 : decide ((wrap64 (a1 - (l0.length : Int))) < 0) = false := decide_eq_false c3; clear c3; have H' := Aside0.mk H; clear H
 go_enter Try.func107, Try.ntmps107
 go_wp2
 (try simp only [Act.put, List.setIfInBounds_toArray, List.set_cons_zero, List.set_cons_succ])
 go_loopg [1, 5] k (fun kq v1 v5 w' => ∃ (a6 : Int) (a2 : Int), v1 = .int .i64 a6 ∧ v5 = .int .i64 a2 ∧ Aside0 (laws_szTenOutS.l0 kq l0 a6 a2 = some r) ∧ Aside0 (kq ≤ k) ∧ Aside0 (Below w.heap.size w w'))
 case atStart => exact ⟨(wrap64 (a1 - (l0.length : Int))), (0), (by first | rfl | (simp; done) | (simp [*]; done)), (by first | rfl | (simp; done) | (simp [*]; done)), H', ⟨Nat.le_refl _⟩, ⟨upH HB.out⟩⟩
 case round =>
  clear H'; (try clear c1); (try clear p2); (try clear c3); (try clear b1); obtain ⟨a6, a2, rfl, rfl, HA, HK1, HB⟩ := hrel
  cases gk with
  | zero => exact absurd HA.out (by simp [laws_szTenOutS.l0])
  | succ k1 =>
   have H := HA.out; clear HA
   simp only [laws_szTenOutS.l0] at H
   by_cases c4 : a2 < (l0.length : Int)
   rotate_left
   ·
    rw [if_neg c4] at H
    have b2 : decide (a2 < (l0.length : Int)) = false := decide_eq_false c4; clear c4; obtain rfl := Option.some.inj H
    go_wp2
    go_ret
    exact ⟨by first | rfl | (simp [*, errW_none, errW_some] <;> rfl), upH HB.out⟩
   rw [if_pos c4] at H
   have b2 : decide (a2 < (l0.length : Int)) = true := decide_eq_true c4; clear c4
   by_cases c5 : 0 ≤ a2
   ·
    rw [if_pos c5] at H
    replace c5 := decide_eq_true c5; obtain ⟨a9, A6, H⟩ := bindA H; (try dsimp only at H)
    by_cases c7 : a9 < 0
    ·
     rw [if_pos c7] at H
     have b3 : decide (a9 < 0) = true := decide_eq_true c7; clear c7; obtain rfl := Option.some.inj H; have p101 : 0 ≤ (a2 : Int) := of_decide_eq_true (by assumption); have q101 : a2 < (l0.length : Int) := of_decide_eq_true (by assumption); obtain ⟨ad101, a7, a8, b0, a3, a4, a5, hl101_2, hi101_2⟩ := at_T169 HR0.out a2 p101 q101
     cases b0
     replace a3 := (upc_ HB.out a3 :); replace a4 := (upc_ HB.out a4 :); replace a5 := (upc_ HB.out a5 :); have HR101_2 := Aside0.mk hi101_2; have HC101_2 := Aside0.mk hl101_2; clear hi101_2 hl101_2; replace p101 := eq_true p101; replace q101 := eq_true q101
     go_wp2_with (first | ((with_reducible refine gc_ 137 rfl ?_); refine gl_ (some 23) rfl Try.func137 #[.agg #[.int .i64 ((rd_T169 l0 a2).f0), .int .i64 ((rd_T169 l0 a2).f1), .slice a7 ((rd_T169 l0 a2).f2).length a8], .int .i64 a6] ?_; (with_reducible refine (laws_szTenOut.calls ((rd_T169 l0 a2).f0) ((rd_T169 l0 a2).f1) _ _ ((rd_T169 l0 a2).f2) a6 a9 _ ?side1 ?side2 A6.out).mono ?_); (case side1 => repeat (first | exact (Kd.C_below HR101_2.out HB.out) | (with_reducible refine Kd.C_alloc ?_ _) | (with_reducible refine Kd.C_drewN ?_ _) | (with_reducible refine Kd.C_drew ?_))); (case side2 => exact HC101_2.out); rintro e w8 ⟨rfl, hb⟩; refine ⟨_, rfl, ?_⟩; replace HB := Aside0.mk (below_step (upH HB.out) hb); (try clear hb)))
     go_ret
     exact ⟨by first | rfl | (simp [*, errW_none, errW_some] <;> rfl), upH HB.out⟩
    rw [if_neg c7] at H
    have b3 : decide (a9 < 0) = false := decide_eq_false c7; clear c7; have H' := Aside0.mk H; clear H; have p101 : 0 ≤ (a2 : Int) := of_decide_eq_true (by assumption); have q101 : a2 < (l0.length : Int) := of_decide_eq_true (by assumption); obtain ⟨ad101, a7, a8, b0, a3, a4, a5, hl101_2, hi101_2⟩ := at_T169 HR0.out a2 p101 q101
    cases b0
    replace a3 := (upc_ HB.out a3 :); replace a4 := (upc_ HB.out a4 :); replace a5 := (upc_ HB.out a5 :); have HR101_2 := Aside0.mk hi101_2; have HC101_2 := Aside0.mk hl101_2; clear hi101_2 hl101_2; replace p101 := eq_true p101; replace q101 := eq_true q101
    go_wp2_with (first | ((with_reducible refine gc_ 137 rfl ?_); refine gl_ (some 23) rfl Try.func137 #[.agg #[.int .i64 ((rd_T169 l0 a2).f0), .int .i64 ((rd_T169 l0 a2).f1), .slice a7 ((rd_T169 l0 a2).f2).length a8], .int .i64 a6] ?_; (with_reducible refine (laws_szTenOut.calls ((rd_T169 l0 a2).f0) ((rd_T169 l0 a2).f1) _ _ ((rd_T169 l0 a2).f2) a6 a9 _ ?side1 ?side2 A6.out).mono ?_); (case side1 => repeat (first | exact (Kd.C_below HR101_2.out HB.out) | (with_reducible refine Kd.C_alloc ?_ _) | (with_reducible refine Kd.C_drewN ?_ _) | (with_reducible refine Kd.C_drew ?_))); (case side2 => exact HC101_2.out); rintro e w9 ⟨rfl, hb⟩; refine ⟨_, rfl, ?_⟩; replace HB := Aside0.mk (below_step (upH HB.out) hb); (try clear hb)))
    go_roundg k1
    case measure => have := HK1.out; omega
    case rel => exact ⟨(a9), (wrap64 (a2 + 1)), (by first | rfl | (simp; done) | (simp [*]; done)), (by first | rfl | (simp; done) | (simp [*]; done)), H', ⟨by have := HK1.out; omega⟩, ⟨upH HB.out⟩⟩
   rw [if_neg c5] at H
   exact absurd H (by simp)
end
section
open Go.Proofs.YtgpkkkmapgnhkaaW.PrintWords.Aside0 renaming mk → yaa
open Go.Proofs.YtgpkkkmapgnhkaaW.PrintWords renaming pw_below_drewN → yab, below_alloc → yac, below_drew1 → yad, below_step → yae, below_set → yaf
def laws_szTenState.f (k : Nat) (a0_0 : Int) (a0_1 : Int) (a0_2 : Int) (a0_3 : Int) (l0_4 : List (S165)) (l0_5 : List (S167)) (l0_6 : List ByteArray) (l0_7 : List (S169)) (a1 : Int) : Option (Int) := (laws_szTenJobS.f k l0_4 a1).bind fun t102 => (if t102 < 0 then (some (-1)) else ((laws_szTenFileS.f k l0_5 t102).bind fun t103 => (if t103 < 0 then (some (-1)) else ((laws_szStringS.f k l0_6 t103).bind fun t104 => (if t104 < 0 then (some (-1)) else ((laws_szTenOutS.f k l0_7 t104).bind fun t105 => (if t105 < 0 then (some (-1)) else (some t105))))))))
set_option maxHeartbeats 8000000 in
set_option maxRecDepth 100000 in
theorem laws_szTenState.calls (k : Nat) (a0_0 : Int) (a0_1 : Int) (a0_2 : Int) (a0_3 : Int) (A0_4 : Option Addr) (c0_4 : Nat) (l0_4 : List (S165)) (A0_5 : Option Addr) (c0_5 : Nat) (l0_5 : List (S167)) (A0_6 : Option Addr) (c0_6 : Nat) (l0_6 : List ByteArray) (A0_7 : Option Addr) (c0_7 : Nat) (l0_7 : List (S169)) (a1 : Int) (r : Int) (w : World) (hr0_4 : Kd.C k165 w A0_4 l0_4.length l0_4) (hc0_4 : l0_4.length ≤ c0_4) (hr0_5 : Kd.C k167 w A0_5 l0_5.length l0_5) (hc0_5 : l0_5.length ≤ c0_5) (hr0_6 : Kd.C Kd.string w A0_6 l0_6.length l0_6) (hc0_6 : l0_6.length ≤ c0_6) (hr0_7 : Kd.C k169 w A0_7 l0_7.length l0_7) (hc0_7 : l0_7.length ≤ c0_7) (h : laws_szTenState.f k a0_0 a0_1 a0_2 a0_3 l0_4 l0_5 l0_6 l0_7 a1 = some r) :
  Calls Try.prog 53 #[.agg #[.int .i64 a0_0, .int .i64 a0_1, .int .i64 a0_2, .int .i64 a0_3, .slice A0_4 l0_4.length c0_4, .slice A0_5 l0_5.length c0_5, .slice A0_6 l0_6.length c0_6, .slice A0_7 l0_7.length c0_7], .int .i64 a1] w fun e w' => e = .returned (.int .i64 r) ∧ Below w.heap.size w w' := by
 have hu83 := Try.underlying83; have HR0_4 := yaa hr0_4; have HC0_4 := yaa hc0_4; clear hr0_4 hc0_4; have HR0_5 := yaa hr0_5; have HC0_5 := yaa hc0_5; clear hr0_5 hc0_5; have HR0_6 := yaa hr0_6; have HC0_6 := yaa hc0_6; clear hr0_6 hc0_6; have HR0_7 := yaa hr0_7; have HC0_7 := yaa hc0_7; clear hr0_7 hc0_7; have HB := yaa (Below.refl w.heap.size w); have H : ((laws_szTenJobS.f k l0_4 a1).bind fun b0 => (if b0 < 0 then (some (-1)) else ((laws_szTenFileS.f k l0_5 b0).bind fun b1 => (if b1 < 0 then (some (-1)) else ((laws_szStringS.f k l0_6 b1).bind fun b4 => (if b4 < 0 then (some (-1)) else ((laws_szTenOutS.f k l0_7 b4).bind fun b7 => (if b7 < 0 then (some (-1)) else (some b7))))))))) = some r := h; clear h; obtain ⟨b0, A3, H⟩ := bindA H; (try dsimp only at H)
 by_cases c4 : b0 < 0
 ·
  rw [if_pos c4] at H
  have t9 : decide (b0 < 0) = true := decide_eq_true c4; clear c4; obtain rfl := Option.some.inj H
  go_enter Try.func53, Try.ntmps53
  go_wp2_with (first | ((with_reducible refine gd_ 2 rfl ?_); refine bx_ 2 rfl #[.int .i64 a0_0, .int .i64 a0_1, .int .i64 a0_2, .int .i64 a0_3, .slice A0_4 l0_4.length c0_4, .slice A0_5 l0_5.length c0_5, .slice A0_6 l0_6.length c0_6, .slice A0_7 l0_7.length c0_7] 83 ?_; intro b2 hg w5 hbox hb; have a9 := yaa (hbox); have b3 := yaa ((by rw [hg]; exact (below_size (upH HB.out)) : w.heap.size ≤ b2)); replace HB := yaa (yae (upH HB.out) hb); have b8 := b3; clear hb hbox hg; obtain ⟨u0, u1, u2, u3, u4, u5, u6, u7⟩ := cc8_ a9.out; obtain ⟨u8, u9, v0, v1, v2, v3, v4⟩ := cf7_ a9.out; have v5 := blk_frozen a9.out 7) | ((with_reducible refine gc_ 104 rfl ?_); refine gl_ (some 8) rfl Try.func104 #[.slice A0_4 l0_4.length c0_4, .int .i64 a1] ?_; (with_reducible refine (laws_szTenJobS.calls k _ _ l0_4 a1 b0 _ ?side1 ?side2 A3.out).mono ?_); (case side1 => repeat (first | exact (Kd.C_below HR0_4.out HB.out) | (with_reducible refine Kd.C_alloc ?_ _) | (with_reducible refine Kd.C_drewN ?_ _) | (with_reducible refine Kd.C_drew ?_))); (case side2 => exact HC0_4.out); rintro e w7 ⟨rfl, hb⟩; refine ⟨_, rfl, ?_⟩; replace a9 := yaa (blk_below (upB a9.out) hb); replace HB := yaa (yae (by repeat (with_reducible first | exact HB.out | apply yac | apply yab | apply yad | refine yaf ?_ (Aside0.out ‹_›))) hb); (try clear hb)))
  go_ret
  exact ⟨by first | rfl | (simp [*, errW_none, errW_some] <;> rfl), by repeat (with_reducible first | exact HB.out | apply yac | apply yab | apply yad | refine yaf ?_ (Aside0.out ‹_›))⟩
 rw [if_neg c4] at H
 have t9 : decide (b0 < 0) = false := decide_eq_false c4; clear c4; obtain ⟨b1, A8, H⟩ := bindA H; (try dsimp only at H)
 by_cases c9 : b1 < 0
 ·
  rw [if_pos c9] at H
  have v6 : decide (b1 < 0) = true := decide_eq_true c9; clear c9; obtain rfl := Option.some.inj H
  go_enter Try.func53, Try.ntmps53
  go_wp2_with (first | ((with_reducible refine gd_ 2 rfl ?_); refine bx_ 2 rfl #[.int .i64 a0_0, .int .i64 a0_1, .int .i64 a0_2, .int .i64 a0_3, .slice A0_4 l0_4.length c0_4, .slice A0_5 l0_5.length c0_5, .slice A0_6 l0_6.length c0_6, .slice A0_7 l0_7.length c0_7] 83 ?_; intro b2 hg w10 hbox hb; have a9 := yaa (hbox); have b3 := yaa ((by rw [hg]; exact (below_size (upH HB.out)) : w.heap.size ≤ b2)); replace HB := yaa (yae (upH HB.out) hb); have b8 := b3; clear hb hbox hg; obtain ⟨c1, c2, c3, c5, c6, c7, c8, d0⟩ := cc8_ a9.out; obtain ⟨d1, d2, d3, d4, d5, d6, d7⟩ := cf7_ a9.out; have d8 := blk_frozen a9.out 7) | ((with_reducible refine gc_ 104 rfl ?_); refine gl_ (some 8) rfl Try.func104 #[.slice A0_4 l0_4.length c0_4, .int .i64 a1] ?_; (with_reducible refine (laws_szTenJobS.calls k _ _ l0_4 a1 b0 _ ?side1 ?side2 A3.out).mono ?_); (case side1 => repeat (first | exact (Kd.C_below HR0_4.out HB.out) | (with_reducible refine Kd.C_alloc ?_ _) | (with_reducible refine Kd.C_drewN ?_ _) | (with_reducible refine Kd.C_drew ?_))); (case side2 => exact HC0_4.out); rintro e w12 ⟨rfl, hb⟩; refine ⟨_, rfl, ?_⟩; replace a9 := yaa (blk_below (upB a9.out) hb); replace HB := yaa (yae (by repeat (with_reducible first | exact HB.out | apply yac | apply yab | apply yad | refine yaf ?_ (Aside0.out ‹_›))) hb); (try clear hb); obtain ⟨d9, e0, e1, e2, e3, e4, e5, e6⟩ := cc8_ a9.out; obtain ⟨e7, e8, e9, f0, f1, f2, f3⟩ := cf7_ a9.out; have f4 := blk_frozen a9.out 7) | ((with_reducible refine gc_ 105 rfl ?_); refine gl_ (some 14) rfl Try.func105 #[.slice A0_5 l0_5.length c0_5, .int .i64 b0] ?_; (with_reducible refine (laws_szTenFileS.calls k _ _ l0_5 b0 b1 _ ?side1 ?side2 A8.out).mono ?_); (case side1 => repeat (first | exact (Kd.C_below HR0_5.out HB.out) | (with_reducible refine Kd.C_alloc ?_ _) | (with_reducible refine Kd.C_drewN ?_ _) | (with_reducible refine Kd.C_drew ?_))); (case side2 => exact HC0_5.out); rintro e w14 ⟨rfl, hb⟩; refine ⟨_, rfl, ?_⟩; replace a9 := yaa (blk_below (upB a9.out) hb); replace HB := yaa (yae (by repeat (with_reducible first | exact HB.out | apply yac | apply yab | apply yad | refine yaf ?_ (Aside0.out ‹_›))) hb); (try clear hb)))
  go_ret
  exact ⟨by first | rfl | (simp [*, errW_none, errW_some] <;> rfl), by repeat (with_reducible first | exact HB.out | apply yac | apply yab | apply yad | refine yaf ?_ (Aside0.out ‹_›))⟩
 rw [if_neg c9] at H
 have v6 : decide (b1 < 0) = false := decide_eq_false c9; clear c9; obtain ⟨b4, A15, H⟩ := bindA H; (try dsimp only at H)
 by_cases c16 : b4 < 0
 ·
  rw [if_pos c16] at H
  have b9 : decide (b4 < 0) = true := decide_eq_true c16; clear c16; obtain rfl := Option.some.inj H
  go_enter Try.func53, Try.ntmps53
  go_wp2_with (first | ((with_reducible refine gd_ 2 rfl ?_); refine bx_ 2 rfl #[.int .i64 a0_0, .int .i64 a0_1, .int .i64 a0_2, .int .i64 a0_3, .slice A0_4 l0_4.length c0_4, .slice A0_5 l0_5.length c0_5, .slice A0_6 l0_6.length c0_6, .slice A0_7 l0_7.length c0_7] 83 ?_; intro b2 hg w17 hbox hb; have a9 := yaa (hbox); have b3 := yaa ((by rw [hg]; exact (below_size (upH HB.out)) : w.heap.size ≤ b2)); replace HB := yaa (yae (upH HB.out) hb); have b8 := b3; clear hb hbox hg; obtain ⟨f5, f6, f7, f8, f9, g0, g1, g2⟩ := cc8_ a9.out; obtain ⟨g3, g4, g5, g6, g7, g8, g9⟩ := cf7_ a9.out; have h0 := blk_frozen a9.out 7) | ((with_reducible refine gc_ 104 rfl ?_); refine gl_ (some 8) rfl Try.func104 #[.slice A0_4 l0_4.length c0_4, .int .i64 a1] ?_; (with_reducible refine (laws_szTenJobS.calls k _ _ l0_4 a1 b0 _ ?side1 ?side2 A3.out).mono ?_); (case side1 => repeat (first | exact (Kd.C_below HR0_4.out HB.out) | (with_reducible refine Kd.C_alloc ?_ _) | (with_reducible refine Kd.C_drewN ?_ _) | (with_reducible refine Kd.C_drew ?_))); (case side2 => exact HC0_4.out); rintro e w19 ⟨rfl, hb⟩; refine ⟨_, rfl, ?_⟩; replace a9 := yaa (blk_below (upB a9.out) hb); replace HB := yaa (yae (by repeat (with_reducible first | exact HB.out | apply yac | apply yab | apply yad | refine yaf ?_ (Aside0.out ‹_›))) hb); (try clear hb); obtain ⟨h1, h2, h3, h4, h5, h6, h7, h8⟩ := cc8_ a9.out; obtain ⟨h9, i0, i1, i2, i3, i4, i5⟩ := cf7_ a9.out; have i6 := blk_frozen a9.out 7) | ((with_reducible refine gc_ 105 rfl ?_); refine gl_ (some 14) rfl Try.func105 #[.slice A0_5 l0_5.length c0_5, .int .i64 b0] ?_; (with_reducible refine (laws_szTenFileS.calls k _ _ l0_5 b0 b1 _ ?side1 ?side2 A8.out).mono ?_); (case side1 => repeat (first | exact (Kd.C_below HR0_5.out HB.out) | (with_reducible refine Kd.C_alloc ?_ _) | (with_reducible refine Kd.C_drewN ?_ _) | (with_reducible refine Kd.C_drew ?_))); (case side2 => exact HC0_5.out); rintro e w21 ⟨rfl, hb⟩; refine ⟨_, rfl, ?_⟩; replace a9 := yaa (blk_below (upB a9.out) hb); replace HB := yaa (yae (by repeat (with_reducible first | exact HB.out | apply yac | apply yab | apply yad | refine yaf ?_ (Aside0.out ‹_›))) hb); (try clear hb); obtain ⟨i7, i8, i9, j0, j1, j2, j3, j4⟩ := cc8_ a9.out; obtain ⟨j5, j6, j7, j8, j9, k0, k1⟩ := cf7_ a9.out; have k2 := blk_frozen a9.out 7) | ((with_reducible refine gc_ 106 rfl ?_); refine gl_ (some 20) rfl Try.func106 #[.slice A0_6 l0_6.length c0_6, .int .i64 b1] ?_; (with_reducible refine (laws_szStringS.calls k _ _ l0_6 b1 b4 _ ?side1 ?side2 A15.out).mono ?_); (case side1 => repeat (first | exact (Kd.C_below HR0_6.out HB.out) | (with_reducible refine Kd.C_alloc ?_ _) | (with_reducible refine Kd.C_drewN ?_ _) | (with_reducible refine Kd.C_drew ?_))); (case side2 => exact HC0_6.out); rintro e w' ⟨rfl, ⟨nd, rfl⟩⟩; refine ⟨_, rfl, ?_⟩))
  go_ret
  exact ⟨by first | rfl | (simp [*, errW_none, errW_some] <;> rfl), by repeat (with_reducible first | exact HB.out | apply yac | apply yab | apply yad | refine yaf ?_ (Aside0.out ‹_›))⟩
 rw [if_neg c16] at H
 have b9 : decide (b4 < 0) = false := decide_eq_false c16; clear c16; obtain ⟨b7, A23, H⟩ := bindA H; (try dsimp only at H)
 by_cases c24 : b7 < 0
 ·
  rw [if_pos c24] at H
  have c0 : decide (b7 < 0) = true := decide_eq_true c24; clear c24; obtain rfl := Option.some.inj H
  go_enter Try.func53, Try.ntmps53
  go_wp2_with (first | ((with_reducible refine gd_ 2 rfl ?_); refine bx_ 2 rfl #[.int .i64 a0_0, .int .i64 a0_1, .int .i64 a0_2, .int .i64 a0_3, .slice A0_4 l0_4.length c0_4, .slice A0_5 l0_5.length c0_5, .slice A0_6 l0_6.length c0_6, .slice A0_7 l0_7.length c0_7] 83 ?_; intro b2 hg w25 hbox hb; have a9 := yaa (hbox); have b3 := yaa ((by rw [hg]; exact (below_size (upH HB.out)) : w.heap.size ≤ b2)); replace HB := yaa (yae (upH HB.out) hb); have b8 := b3; clear hb hbox hg; obtain ⟨k3, k4, k5, k6, k7, k8, k9, l0⟩ := cc8_ a9.out; obtain ⟨l1, l2, l3, l4, l5, l6, l7⟩ := cf7_ a9.out; have l8 := blk_frozen a9.out 7) | ((with_reducible refine gc_ 104 rfl ?_); refine gl_ (some 8) rfl Try.func104 #[.slice A0_4 l0_4.length c0_4, .int .i64 a1] ?_; (with_reducible refine (laws_szTenJobS.calls k _ _ l0_4 a1 b0 _ ?side1 ?side2 A3.out).mono ?_); (case side1 => repeat (first | exact (Kd.C_below HR0_4.out HB.out) | (with_reducible refine Kd.C_alloc ?_ _) | (with_reducible refine Kd.C_drewN ?_ _) | (with_reducible refine Kd.C_drew ?_))); (case side2 => exact HC0_4.out); rintro e w27 ⟨rfl, hb⟩; refine ⟨_, rfl, ?_⟩; replace a9 := yaa (blk_below (upB a9.out) hb); replace HB := yaa (yae (by repeat (with_reducible first | exact HB.out | apply yac | apply yab | apply yad | refine yaf ?_ (Aside0.out ‹_›))) hb); (try clear hb); obtain ⟨l9, m0, m1, m2, m3, m4, m5, m6⟩ := cc8_ a9.out; obtain ⟨m7, m8, m9, n0, n1, n2, n3⟩ := cf7_ a9.out; have n4 := blk_frozen a9.out 7) | ((with_reducible refine gc_ 105 rfl ?_); refine gl_ (some 14) rfl Try.func105 #[.slice A0_5 l0_5.length c0_5, .int .i64 b0] ?_; (with_reducible refine (laws_szTenFileS.calls k _ _ l0_5 b0 b1 _ ?side1 ?side2 A8.out).mono ?_); (case side1 => repeat (first | exact (Kd.C_below HR0_5.out HB.out) | (with_reducible refine Kd.C_alloc ?_ _) | (with_reducible refine Kd.C_drewN ?_ _) | (with_reducible refine Kd.C_drew ?_))); (case side2 => exact HC0_5.out); rintro e w29 ⟨rfl, hb⟩; refine ⟨_, rfl, ?_⟩; replace a9 := yaa (blk_below (upB a9.out) hb); replace HB := yaa (yae (by repeat (with_reducible first | exact HB.out | apply yac | apply yab | apply yad | refine yaf ?_ (Aside0.out ‹_›))) hb); (try clear hb); obtain ⟨n5, n6, n7, n8, n9, o0, o1, o2⟩ := cc8_ a9.out; obtain ⟨o3, o4, o5, o6, o7, o8, o9⟩ := cf7_ a9.out; have p0 := blk_frozen a9.out 7) | ((with_reducible refine gc_ 106 rfl ?_); refine gl_ (some 20) rfl Try.func106 #[.slice A0_6 l0_6.length c0_6, .int .i64 b1] ?_; (with_reducible refine (laws_szStringS.calls k _ _ l0_6 b1 b4 _ ?side1 ?side2 A15.out).mono ?_); (case side1 => repeat (first | exact (Kd.C_below HR0_6.out HB.out) | (with_reducible refine Kd.C_alloc ?_ _) | (with_reducible refine Kd.C_drewN ?_ _) | (with_reducible refine Kd.C_drew ?_))); (case side2 => exact HC0_6.out); rintro e w' ⟨rfl, ⟨nd, rfl⟩⟩; refine ⟨_, rfl, ?_⟩) | ((with_reducible refine gc_ 107 rfl ?_); refine gl_ (some 26) rfl Try.func107 #[.slice A0_7 l0_7.length c0_7, .int .i64 b4] ?_; (with_reducible refine (laws_szTenOutS.calls k _ _ l0_7 b4 b7 _ ?side1 ?side2 A23.out).mono ?_); (case side1 => repeat (first | exact (Kd.C_below HR0_7.out (by repeat (with_reducible first | exact HB.out | apply yac | apply yab | apply yad | refine yaf ?_ (Aside0.out ‹_›)))) | (with_reducible refine Kd.C_alloc ?_ _) | (with_reducible refine Kd.C_drewN ?_ _) | (with_reducible refine Kd.C_drew ?_))); (case side2 => exact HC0_7.out); rintro e w31 ⟨rfl, hb⟩; refine ⟨_, rfl, ?_⟩; replace a9 := yaa (blk_below (upB a9.out) hb); replace HB := yaa (yae (by repeat (with_reducible first | exact HB.out | apply yac | apply yab | apply yad | refine yaf ?_ (Aside0.out ‹_›))) hb); (try clear hb)))
  go_ret
  exact ⟨by first | rfl | (simp [*, errW_none, errW_some] <;> rfl), by repeat (with_reducible first | exact HB.out | apply yac | apply yab | apply yad | refine yaf ?_ (Aside0.out ‹_›))⟩
 rw [if_neg c24] at H
 have c0 : decide (b7 < 0) = false := decide_eq_false c24; clear c24; obtain rfl := Option.some.inj H
 go_enter Try.func53, Try.ntmps53
 go_wp2_with (first | ((with_reducible refine gd_ 2 rfl ?_); refine bx_ 2 rfl #[.int .i64 a0_0, .int .i64 a0_1, .int .i64 a0_2, .int .i64 a0_3, .slice A0_4 l0_4.length c0_4, .slice A0_5 l0_5.length c0_5, .slice A0_6 l0_6.length c0_6, .slice A0_7 l0_7.length c0_7] 83 ?_; intro b2 hg w32 hbox hb; have a9 := yaa (hbox); have b3 := yaa ((by rw [hg]; exact (below_size (upH HB.out)) : w.heap.size ≤ b2)); replace HB := yaa (yae (upH HB.out) hb); have b8 := b3; clear hb hbox hg; obtain ⟨p1, p2, p3, p4, p5, p6, p7, p8⟩ := cc8_ a9.out; obtain ⟨p9, q0, q1, q2, q3, q4, q5⟩ := cf7_ a9.out; have q6 := blk_frozen a9.out 7) | ((with_reducible refine gc_ 104 rfl ?_); refine gl_ (some 8) rfl Try.func104 #[.slice A0_4 l0_4.length c0_4, .int .i64 a1] ?_; (with_reducible refine (laws_szTenJobS.calls k _ _ l0_4 a1 b0 _ ?side1 ?side2 A3.out).mono ?_); (case side1 => repeat (first | exact (Kd.C_below HR0_4.out HB.out) | (with_reducible refine Kd.C_alloc ?_ _) | (with_reducible refine Kd.C_drewN ?_ _) | (with_reducible refine Kd.C_drew ?_))); (case side2 => exact HC0_4.out); rintro e w34 ⟨rfl, hb⟩; refine ⟨_, rfl, ?_⟩; replace a9 := yaa (blk_below (upB a9.out) hb); replace HB := yaa (yae (by repeat (with_reducible first | exact HB.out | apply yac | apply yab | apply yad | refine yaf ?_ (Aside0.out ‹_›))) hb); (try clear hb); obtain ⟨q7, q8, q9, r0, r1, r2, r3, r4⟩ := cc8_ a9.out; obtain ⟨r5, r6, r7, r8, r9, s0, s1⟩ := cf7_ a9.out; have s2 := blk_frozen a9.out 7) | ((with_reducible refine gc_ 105 rfl ?_); refine gl_ (some 14) rfl Try.func105 #[.slice A0_5 l0_5.length c0_5, .int .i64 b0] ?_; (with_reducible refine (laws_szTenFileS.calls k _ _ l0_5 b0 b1 _ ?side1 ?side2 A8.out).mono ?_); (case side1 => repeat (first | exact (Kd.C_below HR0_5.out HB.out) | (with_reducible refine Kd.C_alloc ?_ _) | (with_reducible refine Kd.C_drewN ?_ _) | (with_reducible refine Kd.C_drew ?_))); (case side2 => exact HC0_5.out); rintro e w36 ⟨rfl, hb⟩; refine ⟨_, rfl, ?_⟩; replace a9 := yaa (blk_below (upB a9.out) hb); replace HB := yaa (yae (by repeat (with_reducible first | exact HB.out | apply yac | apply yab | apply yad | refine yaf ?_ (Aside0.out ‹_›))) hb); (try clear hb); obtain ⟨s3, s4, s5, s6, s7, s8, s9, t0⟩ := cc8_ a9.out; obtain ⟨t1, t2, t3, t4, t5, t6, t7⟩ := cf7_ a9.out; have t8 := blk_frozen a9.out 7) | ((with_reducible refine gc_ 106 rfl ?_); refine gl_ (some 20) rfl Try.func106 #[.slice A0_6 l0_6.length c0_6, .int .i64 b1] ?_; (with_reducible refine (laws_szStringS.calls k _ _ l0_6 b1 b4 _ ?side1 ?side2 A15.out).mono ?_); (case side1 => repeat (first | exact (Kd.C_below HR0_6.out HB.out) | (with_reducible refine Kd.C_alloc ?_ _) | (with_reducible refine Kd.C_drewN ?_ _) | (with_reducible refine Kd.C_drew ?_))); (case side2 => exact HC0_6.out); rintro e w' ⟨rfl, ⟨nd, rfl⟩⟩; refine ⟨_, rfl, ?_⟩) | ((with_reducible refine gc_ 107 rfl ?_); refine gl_ (some 26) rfl Try.func107 #[.slice A0_7 l0_7.length c0_7, .int .i64 b4] ?_; (with_reducible refine (laws_szTenOutS.calls k _ _ l0_7 b4 b7 _ ?side1 ?side2 A23.out).mono ?_); (case side1 => repeat (first | exact (Kd.C_below HR0_7.out (by repeat (with_reducible first | exact HB.out | apply yac | apply yab | apply yad | refine yaf ?_ (Aside0.out ‹_›)))) | (with_reducible refine Kd.C_alloc ?_ _) | (with_reducible refine Kd.C_drewN ?_ _) | (with_reducible refine Kd.C_drew ?_))); (case side2 => exact HC0_7.out); rintro e w38 ⟨rfl, hb⟩; refine ⟨_, rfl, ?_⟩; replace a9 := yaa (blk_below (upB a9.out) hb); replace HB := yaa (yae (by repeat (with_reducible first | exact HB.out | apply yac | apply yab | apply yad | refine yaf ?_ (Aside0.out ‹_›))) hb); (try clear hb)))
 go_ret
 exact ⟨by first | rfl | (simp [*, errW_none, errW_some] <;> rfl), by repeat (with_reducible first | exact HB.out | apply yac | apply yab | apply yad | refine yaf ?_ (Aside0.out ‹_›))⟩
end
section
open Go.Proofs.YtgpkkkmapgnhkaaW.PrintWords.Aside0 renaming mk → yaa
def laws_szTenStateS.l0 : Nat → List (S83) → Int → Int → Option (Int)
 | 0, _, _, _ => none
 | k + 1, x0, x1, x5 => if x5 < (x0.length : Int) then (if 0 ≤ x5 then ((laws_szTenState.f k ((rd_T83 x0 x5).f0) ((rd_T83 x0 x5).f1) ((rd_T83 x0 x5).f2) ((rd_T83 x0 x5).f3) ((rd_T83 x0 x5).f4) ((rd_T83 x0 x5).f5) ((rd_T83 x0 x5).f6) ((rd_T83 x0 x5).f7) x1).bind fun t102 => (if t102 < 0 then (some (-1)) else (laws_szTenStateS.l0 k x0 t102 (wrap64 (x5 + 1))))) else (none)) else (some x1)
def laws_szTenStateS.f (k : Nat) (l0 : List (S83)) (a1 : Int) : Option (Int) := if (wrap64 (a1 - (l0.length : Int))) < 0 then (some (-1)) else (laws_szTenStateS.l0 k l0 (wrap64 (a1 - (l0.length : Int))) 0)
set_option maxHeartbeats 8000000 in
set_option maxRecDepth 100000 in
theorem laws_szTenStateS.calls (k : Nat) (A0 : Option Addr) (c0 : Nat) (l0 : List (S83)) (a1 : Int) (r : Int) (w : World) (hr0 : Kd.C k83 w A0 l0.length l0) (hc0 : l0.length ≤ c0) (h : laws_szTenStateS.f k l0 a1 = some r) :
  Calls Try.prog 56 #[.slice A0 l0.length c0, .int .i64 a1] w fun e w' => e = .returned (.int .i64 r) ∧ Below w.heap.size w w' := by
 have hu83 := Try.underlying83; have HR0 := yaa hr0; have HC0 := yaa hc0; clear hr0 hc0; have HB := yaa (Below.refl w.heap.size w); have H : (if (wrap64 (a1 - (l0.length : Int))) < 0 then (some (-1)) else (laws_szTenStateS.l0 k l0 (wrap64 (a1 - (l0.length : Int))) 0)) = some r := h; clear h
 by_cases c3 : (wrap64 (a1 - (l0.length : Int))) < 0
 ·
  rw [if_pos c3] at H
  have c6 : decide ((wrap64 (a1 - (l0.length : Int))) < 0) = true := decide_eq_true c3; clear c3; obtain rfl := Option.some.inj H
  go_enter Try.func56, Try.ntmps56
  go_wp2
  go_ret
  exact ⟨by first | rfl | (simp [*, errW_none, errW_some] <;> rfl), upH HB.out⟩
 rw [if_neg c3] at H
 have c6 : decide ((wrap64 (a1 - (l0.length : Int))) < 0) = false := decide_eq_false c3; clear c3; have H' := yaa H; clear H
 go_enter Try.func56, Try.ntmps56
 go_wp2
 (try simp only [Act.put, List.setIfInBounds_toArray, List.set_cons_zero, List.set_cons_succ])
 go_loopg [1, 5] k (fun kq v1 v5 w' => ∃ (b1 : Int) (a2 : Int), v1 = .int .i64 b1 ∧ v5 = .int .i64 a2 ∧ Aside0 (laws_szTenStateS.l0 kq l0 b1 a2 = some r) ∧ Aside0 (kq ≤ k) ∧ Aside0 (Below w.heap.size w w'))
 case atStart => exact ⟨(wrap64 (a1 - (l0.length : Int))), (0), (by first | rfl | (simp; done) | (simp [*]; done)), (by first | rfl | (simp; done) | (simp [*]; done)), H', ⟨Nat.le_refl _⟩, ⟨upH HB.out⟩⟩
 case round =>
  clear H'; (try clear p2); (try clear c3); (try clear c6); obtain ⟨b1, a2, rfl, rfl, HA, HK1, HB⟩ := hrel
  cases gk with
  | zero => exact absurd HA.out (by simp [laws_szTenStateS.l0])
  | succ k1 =>
   have H := HA.out; clear HA
   simp only [laws_szTenStateS.l0] at H
   by_cases c4 : a2 < (l0.length : Int)
   rotate_left
   ·
    rw [if_neg c4] at H
    have c8 : decide (a2 < (l0.length : Int)) = false := decide_eq_false c4; clear c4; obtain rfl := Option.some.inj H
    go_wp2
    go_ret
    exact ⟨by first | rfl | (simp [*, errW_none, errW_some] <;> rfl), upH HB.out⟩
   rw [if_pos c4] at H
   have c8 : decide (a2 < (l0.length : Int)) = true := decide_eq_true c4; clear c4
   by_cases c5 : 0 ≤ a2
   ·
    rw [if_pos c5] at H
    replace c5 := decide_eq_true c5; obtain ⟨c1, A6, H⟩ := bindA H; (try dsimp only at H)
    by_cases c7 : c1 < 0
    ·
     rw [if_pos c7] at H
     have c9 : decide (c1 < 0) = true := decide_eq_true c7; clear c7; obtain rfl := Option.some.inj H; have p101 : 0 ≤ (a2 : Int) := of_decide_eq_true (by assumption); have q101 : a2 < (l0.length : Int) := of_decide_eq_true (by assumption); obtain ⟨ad101, b2, b3, b4, b5, b6, b7, b8, b9, c2, a3, a4, a5, a6, a7, a8, a9, b0, hl101_4, hi101_4, hl101_5, hi101_5, hl101_6, hi101_6, hl101_7, hi101_7⟩ := at_T83 HR0.out a2 p101 q101
     cases c2
     replace a3 := (upc_ HB.out a3 :); replace a4 := (upc_ HB.out a4 :); replace a5 := (upc_ HB.out a5 :); replace a6 := (upc_ HB.out a6 :); replace a7 := (upc_ HB.out a7 :); replace a8 := (upc_ HB.out a8 :); replace a9 := (upc_ HB.out a9 :); replace b0 := (upc_ HB.out b0 :); have HR101_4 := yaa hi101_4; have HC101_4 := yaa hl101_4; clear hi101_4 hl101_4; have HR101_5 := yaa hi101_5; have HC101_5 := yaa hl101_5; clear hi101_5 hl101_5; have HR101_6 := yaa hi101_6; have HC101_6 := yaa hl101_6; clear hi101_6 hl101_6; have HR101_7 := yaa hi101_7; have HC101_7 := yaa hl101_7; clear hi101_7 hl101_7; replace p101 := eq_true p101; replace q101 := eq_true q101
     go_wp2_with (first | ((with_reducible refine gc_ 53 rfl ?_); refine gl_ (some 23) rfl Try.func53 #[.agg #[.int .i64 ((rd_T83 l0 a2).f0), .int .i64 ((rd_T83 l0 a2).f1), .int .i64 ((rd_T83 l0 a2).f2), .int .i64 ((rd_T83 l0 a2).f3), .slice b2 ((rd_T83 l0 a2).f4).length b3, .slice b4 ((rd_T83 l0 a2).f5).length b5, .slice b6 ((rd_T83 l0 a2).f6).length b7, .slice b8 ((rd_T83 l0 a2).f7).length b9], .int .i64 b1] ?_; (with_reducible refine (laws_szTenState.calls k1 ((rd_T83 l0 a2).f0) ((rd_T83 l0 a2).f1) ((rd_T83 l0 a2).f2) ((rd_T83 l0 a2).f3) _ _ ((rd_T83 l0 a2).f4) _ _ ((rd_T83 l0 a2).f5) _ _ ((rd_T83 l0 a2).f6) _ _ ((rd_T83 l0 a2).f7) b1 c1 _ ?side1 ?side2 ?side3 ?side4 ?side5 ?side6 ?side7 ?side8 A6.out).mono ?_); (case side1 => repeat (first | exact (Kd.C_below HR101_4.out HB.out) | (with_reducible refine Kd.C_alloc ?_ _) | (with_reducible refine Kd.C_drewN ?_ _) | (with_reducible refine Kd.C_drew ?_))); (case side2 => exact HC101_4.out); (case side3 => repeat (first | exact (Kd.C_below HR101_5.out HB.out) | (with_reducible refine Kd.C_alloc ?_ _) | (with_reducible refine Kd.C_drewN ?_ _) | (with_reducible refine Kd.C_drew ?_))); (case side4 => exact HC101_5.out); (case side5 => repeat (first | exact (Kd.C_below HR101_6.out HB.out) | (with_reducible refine Kd.C_alloc ?_ _) | (with_reducible refine Kd.C_drewN ?_ _) | (with_reducible refine Kd.C_drew ?_))); (case side6 => exact HC101_6.out); (case side7 => repeat (first | exact (Kd.C_below HR101_7.out HB.out) | (with_reducible refine Kd.C_alloc ?_ _) | (with_reducible refine Kd.C_drewN ?_ _) | (with_reducible refine Kd.C_drew ?_))); (case side8 => exact HC101_7.out); rintro e w8 ⟨rfl, hb⟩; refine ⟨_, rfl, ?_⟩; replace HB := yaa (below_step (upH HB.out) hb); (try clear hb)))
     go_ret
     exact ⟨by first | rfl | (simp [*, errW_none, errW_some] <;> rfl), upH HB.out⟩
    rw [if_neg c7] at H
    have c9 : decide (c1 < 0) = false := decide_eq_false c7; clear c7; have H' := yaa H; clear H; have p101 : 0 ≤ (a2 : Int) := of_decide_eq_true (by assumption); have q101 : a2 < (l0.length : Int) := of_decide_eq_true (by assumption); obtain ⟨ad101, b2, b3, b4, b5, b6, b7, b8, b9, c2, a3, a4, a5, a6, a7, a8, a9, b0, hl101_4, hi101_4, hl101_5, hi101_5, hl101_6, hi101_6, hl101_7, hi101_7⟩ := at_T83 HR0.out a2 p101 q101
    cases c2
    replace a3 := (upc_ HB.out a3 :); replace a4 := (upc_ HB.out a4 :); replace a5 := (upc_ HB.out a5 :); replace a6 := (upc_ HB.out a6 :); replace a7 := (upc_ HB.out a7 :); replace a8 := (upc_ HB.out a8 :); replace a9 := (upc_ HB.out a9 :); replace b0 := (upc_ HB.out b0 :); have HR101_4 := yaa hi101_4; have HC101_4 := yaa hl101_4; clear hi101_4 hl101_4; have HR101_5 := yaa hi101_5; have HC101_5 := yaa hl101_5; clear hi101_5 hl101_5; have HR101_6 := yaa hi101_6; have HC101_6 := yaa hl101_6; clear hi101_6 hl101_6; have HR101_7 := yaa hi101_7; have HC101_7 := yaa hl101_7; clear hi101_7 hl101_7; replace p101 := eq_true p101; replace q101 := eq_true q101
    go_wp2_with (first | ((with_reducible refine gc_ 53 rfl ?_); refine gl_ (some 23) rfl Try.func53 #[.agg #[.int .i64 ((rd_T83 l0 a2).f0), .int .i64 ((rd_T83 l0 a2).f1), .int .i64 ((rd_T83 l0 a2).f2), .int .i64 ((rd_T83 l0 a2).f3), .slice b2 ((rd_T83 l0 a2).f4).length b3, .slice b4 ((rd_T83 l0 a2).f5).length b5, .slice b6 ((rd_T83 l0 a2).f6).length b7, .slice b8 ((rd_T83 l0 a2).f7).length b9], .int .i64 b1] ?_; (with_reducible refine (laws_szTenState.calls k1 ((rd_T83 l0 a2).f0) ((rd_T83 l0 a2).f1) ((rd_T83 l0 a2).f2) ((rd_T83 l0 a2).f3) _ _ ((rd_T83 l0 a2).f4) _ _ ((rd_T83 l0 a2).f5) _ _ ((rd_T83 l0 a2).f6) _ _ ((rd_T83 l0 a2).f7) b1 c1 _ ?side1 ?side2 ?side3 ?side4 ?side5 ?side6 ?side7 ?side8 A6.out).mono ?_); (case side1 => repeat (first | exact (Kd.C_below HR101_4.out HB.out) | (with_reducible refine Kd.C_alloc ?_ _) | (with_reducible refine Kd.C_drewN ?_ _) | (with_reducible refine Kd.C_drew ?_))); (case side2 => exact HC101_4.out); (case side3 => repeat (first | exact (Kd.C_below HR101_5.out HB.out) | (with_reducible refine Kd.C_alloc ?_ _) | (with_reducible refine Kd.C_drewN ?_ _) | (with_reducible refine Kd.C_drew ?_))); (case side4 => exact HC101_5.out); (case side5 => repeat (first | exact (Kd.C_below HR101_6.out HB.out) | (with_reducible refine Kd.C_alloc ?_ _) | (with_reducible refine Kd.C_drewN ?_ _) | (with_reducible refine Kd.C_drew ?_))); (case side6 => exact HC101_6.out); (case side7 => repeat (first | exact (Kd.C_below HR101_7.out HB.out) | (with_reducible refine Kd.C_alloc ?_ _) | (with_reducible refine Kd.C_drewN ?_ _) | (with_reducible refine Kd.C_drew ?_))); (case side8 => exact HC101_7.out); rintro e w9 ⟨rfl, hb⟩; refine ⟨_, rfl, ?_⟩; replace HB := yaa (below_step (upH HB.out) hb); (try clear hb)))
    go_roundg k1
    case measure => have := HK1.out; omega
    case rel => exact ⟨(c1), (wrap64 (a2 + 1)), (by first | rfl | (simp; done) | (simp [*]; done)), (by first | rfl | (simp; done) | (simp [*]; done)), H', ⟨by have := HK1.out; omega⟩, ⟨upH HB.out⟩⟩
   rw [if_neg c5] at H
   exact absurd H (by simp)
end
section
def spec_l1In.f (a0 : Int) (a1 : Int) (a2 : Int) : Option (Bool) := if a0 ≥ a1 then (some (decide (a0 ≤ a2))) else (some false)
set_option maxHeartbeats 8000000 in
set_option maxRecDepth 100000 in
theorem spec_l1In.calls (a0 : Int) (a1 : Int) (a2 : Int) (r : Bool) (w : World) (h : spec_l1In.f a0 a1 a2 = some r) :
    Calls Try.prog 63 #[.int .i64 a0, .int .i64 a1, .int .i64 a2] w fun e w' => e = .returned (.bool r) ∧ Drawn0 w w' := by
  have H : (if a0 ≥ a1 then (some (decide (a0 ≤ a2))) else (some false)) = some r := h; clear h
  by_cases c4 : a0 ≥ a1
  · rw [if_pos c4] at H
    have c4b0 : decide (a1 ≤ a0) = true := decide_eq_true c4; clear c4; obtain rfl := Option.some.inj H
    go_enter Try.func63, Try.ntmps63
    go_wp2
    go_ret
    exact ⟨by first | rfl | (simp; done) | (simp [*]; done), by repeat (first | exact Drawn0.refl _ | apply Drawn0.step)⟩
  · rw [if_neg c4] at H
    have c4b0 : decide (a1 ≤ a0) = false := decide_eq_false c4; clear c4; obtain rfl := Option.some.inj H
    go_enter Try.func63, Try.ntmps63
    go_wp2
    go_ret
    exact ⟨by first | rfl | (simp; done) | (simp [*]; done), by repeat (first | exact Drawn0.refl _ | apply Drawn0.step)⟩
end
section
open Go.Proofs.YtgpkkkmapgnhkaaW.PrintWords.Aside0 renaming mk → yaa
def spec_CfgOk.f (l0_0 : List Int) (a0_1 : Int) (a0_2 : Int) (a0_3 : Int) (a0_4 : Int) (a0_5 : Int) (a0_6 : Int) : Option (Bool) := if (l0_0.length : Int) ≤ 32 then ((spec_l1In.f a0_1 1 9).bind fun t102 => (if t102 = true then ((spec_l1In.f a0_2 1 99).bind fun t103 => (if t103 = true then ((spec_l1In.f a0_3 1 4).bind fun t104 => (if t104 = true then ((spec_l1In.f a0_4 1 999).bind fun t105 => (if t105 = true then ((spec_l1In.f a0_5 1 3).bind fun t106 => (if t106 = true then ((spec_l1In.f a0_6 1 999).bind fun t107 => (some t107)) else (some false))) else (some false))) else (some false))) else (some false))) else (some false))) else (some false)
set_option maxHeartbeats 8000000 in
set_option maxRecDepth 100000 in
theorem spec_CfgOk.calls (A0_0 : Option Addr) (c0_0 : Nat) (l0_0 : List Int) (a0_1 : Int) (a0_2 : Int) (a0_3 : Int) (a0_4 : Int) (a0_5 : Int) (a0_6 : Int) (r : Bool) (w : World) (hr0_0 : Kd.C (Kd.int .u8) w A0_0 l0_0.length l0_0) (hc0_0 : l0_0.length ≤ c0_0) (h : spec_CfgOk.f l0_0 a0_1 a0_2 a0_3 a0_4 a0_5 a0_6 = some r) :
  Calls Try.prog 15 #[.agg #[.slice A0_0 l0_0.length c0_0, .int .i64 a0_1, .int .i64 a0_2, .int .i64 a0_3, .int .i64 a0_4, .int .i64 a0_5, .int .i64 a0_6]] w fun e w' => e = .returned (.bool r) ∧ Below w.heap.size w w' := by
 have hu24 := Try.underlying24; have HR0_0 := yaa hr0_0; have HC0_0 := yaa hc0_0; clear hr0_0 hc0_0; have HB := yaa (Below.refl w.heap.size w); have H : (if (l0_0.length : Int) ≤ 32 then ((spec_l1In.f a0_1 1 9).bind fun a6 => (if a6 = true then ((spec_l1In.f a0_2 1 99).bind fun a7 => (if a7 = true then ((spec_l1In.f a0_3 1 4).bind fun a8 => (if a8 = true then ((spec_l1In.f a0_4 1 999).bind fun a9 => (if a9 = true then ((spec_l1In.f a0_5 1 3).bind fun b0 => (if b0 = true then ((spec_l1In.f a0_6 1 999).bind fun b1 => (some b1)) else (some false))) else (some false))) else (some false))) else (some false))) else (some false))) else (some false)) = some r := h; clear h
 by_cases c2 : (l0_0.length : Int) ≤ 32
 rotate_left
 ·
  rw [if_neg c2] at H
  have l4 : decide ((l0_0.length : Int) ≤ 32) = false := decide_eq_false c2; have l5 : decide (l0_0.length ≤ 32) = false := decide_eq_false (by omega); clear c2; obtain rfl := Option.some.inj H
  go_enter Try.func15, Try.ntmps15
  go_wp2_with (first | ((with_reducible refine gd_ 1 rfl ?_); refine bx_ 1 rfl #[.slice A0_0 l0_0.length c0_0, .int .i64 a0_1, .int .i64 a0_2, .int .i64 a0_3, .int .i64 a0_4, .int .i64 a0_5, .int .i64 a0_6] 24 ?_; intro a1 hg w26 hbox hb; have a0 := yaa (hbox); have a2 := yaa ((by rw [hg]; exact (below_size (upH HB.out)) : w.heap.size ≤ a1)); replace HB := yaa (below_step (upH HB.out) hb); have a3 := a2; clear hb hbox hg; obtain ⟨k0, k1, k2, k3, k4, k5, k6⟩ := cc7_ a0.out; obtain ⟨k7, k8, k9, l0, l1, l2⟩ := cf6_ a0.out; have l3 := blk_frozen a0.out 6))
  go_ret
  exact ⟨by first | rfl | (simp [*, errW_none, errW_some] <;> rfl), by repeat (with_reducible first | exact HB.out | apply below_alloc | apply pw_below_drewN | apply below_drew1 | refine below_set ?_ (Aside0.out ‹_›))⟩
 rw [if_pos c2] at H
 have l4 : decide ((l0_0.length : Int) ≤ 32) = true := decide_eq_true c2; have l5 : decide (l0_0.length ≤ 32) = true := decide_eq_true (by omega); clear c2; obtain ⟨a6, A3, H⟩ := bindA H; (try dsimp only at H)
 by_cases c4 : a6 = true
 rotate_left
 ·
  replace c4 := Bool.eq_false_iff.mpr c4
  subst c4
  rw [if_neg (show ¬ (false = true) by decide)] at H
  obtain rfl := Option.some.inj H
  go_enter Try.func15, Try.ntmps15
  go_wp2_with (first | ((with_reducible refine gd_ 1 rfl ?_); refine bx_ 1 rfl #[.slice A0_0 l0_0.length c0_0, .int .i64 a0_1, .int .i64 a0_2, .int .i64 a0_3, .int .i64 a0_4, .int .i64 a0_5, .int .i64 a0_6] 24 ?_; intro a1 hg w24 hbox hb; have a0 := yaa (hbox); have a2 := yaa ((by rw [hg]; exact (below_size (upH HB.out)) : w.heap.size ≤ a1)); replace HB := yaa (below_step (upH HB.out) hb); have a3 := a2; clear hb hbox hg; obtain ⟨i6, i7, i8, i9, j0, j1, j2⟩ := cc7_ a0.out; obtain ⟨j3, j4, j5, j6, j7, j8⟩ := cf6_ a0.out; have j9 := blk_frozen a0.out 6) | (go_at_call 63; (with_reducible refine (spec_l1In.calls a0_1 1 9 false _ A3.out).mono ?_); rintro e w' ⟨rfl, ⟨nd, rfl⟩⟩))
  go_ret
  exact ⟨by first | rfl | (simp [*, errW_none, errW_some] <;> rfl), by repeat (with_reducible first | exact HB.out | apply below_alloc | apply pw_below_drewN | apply below_drew1 | refine below_set ?_ (Aside0.out ‹_›))⟩
 subst c4
 rw [if_pos rfl] at H
 obtain ⟨a7, A5, H⟩ := bindA H; (try dsimp only at H)
 by_cases c6 : a7 = true
 rotate_left
 ·
  replace c6 := Bool.eq_false_iff.mpr c6
  subst c6
  rw [if_neg (show ¬ (false = true) by decide)] at H
  obtain rfl := Option.some.inj H
  go_enter Try.func15, Try.ntmps15
  go_wp2_with (first | ((with_reducible refine gd_ 1 rfl ?_); refine bx_ 1 rfl #[.slice A0_0 l0_0.length c0_0, .int .i64 a0_1, .int .i64 a0_2, .int .i64 a0_3, .int .i64 a0_4, .int .i64 a0_5, .int .i64 a0_6] 24 ?_; intro a1 hg w22 hbox hb; have a0 := yaa (hbox); have a2 := yaa ((by rw [hg]; exact (below_size (upH HB.out)) : w.heap.size ≤ a1)); replace HB := yaa (below_step (upH HB.out) hb); have a3 := a2; clear hb hbox hg; obtain ⟨h2, h3, h4, h5, h6, h7, h8⟩ := cc7_ a0.out; obtain ⟨h9, i0, i1, i2, i3, i4⟩ := cf6_ a0.out; have i5 := blk_frozen a0.out 6) | (go_at_call 63; (with_reducible refine (spec_l1In.calls a0_1 1 9 true _ A3.out).mono ?_); rintro e w' ⟨rfl, ⟨nd, rfl⟩⟩) | (go_at_call 63; (with_reducible refine (spec_l1In.calls a0_2 1 99 false _ A5.out).mono ?_); rintro e w' ⟨rfl, ⟨nd, rfl⟩⟩))
  go_ret
  exact ⟨by first | rfl | (simp [*, errW_none, errW_some] <;> rfl), by repeat (with_reducible first | exact HB.out | apply below_alloc | apply pw_below_drewN | apply below_drew1 | refine below_set ?_ (Aside0.out ‹_›))⟩
 subst c6
 rw [if_pos rfl] at H
 obtain ⟨a8, A7, H⟩ := bindA H; (try dsimp only at H)
 by_cases c8 : a8 = true
 rotate_left
 ·
  replace c8 := Bool.eq_false_iff.mpr c8
  subst c8
  rw [if_neg (show ¬ (false = true) by decide)] at H
  obtain rfl := Option.some.inj H
  go_enter Try.func15, Try.ntmps15
  go_wp2_with (first | ((with_reducible refine gd_ 1 rfl ?_); refine bx_ 1 rfl #[.slice A0_0 l0_0.length c0_0, .int .i64 a0_1, .int .i64 a0_2, .int .i64 a0_3, .int .i64 a0_4, .int .i64 a0_5, .int .i64 a0_6] 24 ?_; intro a1 hg w20 hbox hb; have a0 := yaa (hbox); have a2 := yaa ((by rw [hg]; exact (below_size (upH HB.out)) : w.heap.size ≤ a1)); replace HB := yaa (below_step (upH HB.out) hb); have a3 := a2; clear hb hbox hg; obtain ⟨f8, f9, g0, g1, g2, g3, g4⟩ := cc7_ a0.out; obtain ⟨g5, g6, g7, g8, g9, h0⟩ := cf6_ a0.out; have h1 := blk_frozen a0.out 6) | (go_at_call 63; (with_reducible refine (spec_l1In.calls a0_1 1 9 true _ A3.out).mono ?_); rintro e w' ⟨rfl, ⟨nd, rfl⟩⟩) | (go_at_call 63; (with_reducible refine (spec_l1In.calls a0_2 1 99 true _ A5.out).mono ?_); rintro e w' ⟨rfl, ⟨nd, rfl⟩⟩) | (go_at_call 63; (with_reducible refine (spec_l1In.calls a0_3 1 4 false _ A7.out).mono ?_); rintro e w' ⟨rfl, ⟨nd, rfl⟩⟩))
  go_ret
  exact ⟨by first | rfl | (simp [*, errW_none, errW_some] <;> rfl), by repeat (with_reducible first | exact HB.out | apply below_alloc | apply pw_below_drewN | apply below_drew1 | refine below_set ?_ (Aside0.out ‹_›))⟩
 subst c8
 rw [if_pos rfl] at H
 obtain ⟨a9, A9, H⟩ := bindA H; (try dsimp only at H)
 by_cases c10 : a9 = true
 ·
  subst c10
  rw [if_pos rfl] at H
  obtain ⟨b0, A11, H⟩ := bindA H; (try dsimp only at H)
  by_cases c12 : b0 = true
  ·
   subst c12
   rw [if_pos rfl] at H
   obtain ⟨b1, A13, H⟩ := bindA H; (try dsimp only at H); obtain rfl := Option.some.inj H
   go_enter Try.func15, Try.ntmps15
   go_wp2_with (first | ((with_reducible refine gd_ 1 rfl ?_); refine bx_ 1 rfl #[.slice A0_0 l0_0.length c0_0, .int .i64 a0_1, .int .i64 a0_2, .int .i64 a0_3, .int .i64 a0_4, .int .i64 a0_5, .int .i64 a0_6] 24 ?_; intro a1 hg w14 hbox hb; have a0 := yaa (hbox); have a2 := yaa ((by rw [hg]; exact (below_size (upH HB.out)) : w.heap.size ≤ a1)); replace HB := yaa (below_step (upH HB.out) hb); have a3 := a2; clear hb hbox hg; obtain ⟨b2, b3, b4, b5, b6, b7, b8⟩ := cc7_ a0.out; obtain ⟨b9, c0, c1, c3, c5, c7⟩ := cf6_ a0.out; have c9 := blk_frozen a0.out 6) | (go_at_call 63; (with_reducible refine (spec_l1In.calls a0_1 1 9 true _ A3.out).mono ?_); rintro e w' ⟨rfl, ⟨nd, rfl⟩⟩) | (go_at_call 63; (with_reducible refine (spec_l1In.calls a0_2 1 99 true _ A5.out).mono ?_); rintro e w' ⟨rfl, ⟨nd, rfl⟩⟩) | (go_at_call 63; (with_reducible refine (spec_l1In.calls a0_3 1 4 true _ A7.out).mono ?_); rintro e w' ⟨rfl, ⟨nd, rfl⟩⟩) | (go_at_call 63; (with_reducible refine (spec_l1In.calls a0_4 1 999 true _ A9.out).mono ?_); rintro e w' ⟨rfl, ⟨nd, rfl⟩⟩) | (go_at_call 63; (with_reducible refine (spec_l1In.calls a0_5 1 3 true _ A11.out).mono ?_); rintro e w' ⟨rfl, ⟨nd, rfl⟩⟩) | (go_at_call 63; (with_reducible refine (spec_l1In.calls a0_6 1 999 b1 _ A13.out).mono ?_); rintro e w' ⟨rfl, ⟨nd, rfl⟩⟩))
   go_ret
   exact ⟨by first | rfl | (simp [*, errW_none, errW_some] <;> rfl), by repeat (with_reducible first | exact HB.out | apply below_alloc | apply pw_below_drewN | apply below_drew1 | refine below_set ?_ (Aside0.out ‹_›))⟩
  replace c12 := Bool.eq_false_iff.mpr c12
  subst c12
  rw [if_neg (show ¬ (false = true) by decide)] at H
  obtain rfl := Option.some.inj H
  go_enter Try.func15, Try.ntmps15
  go_wp2_with (first | ((with_reducible refine gd_ 1 rfl ?_); refine bx_ 1 rfl #[.slice A0_0 l0_0.length c0_0, .int .i64 a0_1, .int .i64 a0_2, .int .i64 a0_3, .int .i64 a0_4, .int .i64 a0_5, .int .i64 a0_6] 24 ?_; intro a1 hg w16 hbox hb; have a0 := yaa (hbox); have a2 := yaa ((by rw [hg]; exact (below_size (upH HB.out)) : w.heap.size ≤ a1)); replace HB := yaa (below_step (upH HB.out) hb); have a3 := a2; clear hb hbox hg; obtain ⟨d0, d1, d2, d3, d4, d5, d6⟩ := cc7_ a0.out; obtain ⟨d7, d8, d9, e0, e1, e2⟩ := cf6_ a0.out; have e3 := blk_frozen a0.out 6) | (go_at_call 63; (with_reducible refine (spec_l1In.calls a0_1 1 9 true _ A3.out).mono ?_); rintro e w' ⟨rfl, ⟨nd, rfl⟩⟩) | (go_at_call 63; (with_reducible refine (spec_l1In.calls a0_2 1 99 true _ A5.out).mono ?_); rintro e w' ⟨rfl, ⟨nd, rfl⟩⟩) | (go_at_call 63; (with_reducible refine (spec_l1In.calls a0_3 1 4 true _ A7.out).mono ?_); rintro e w' ⟨rfl, ⟨nd, rfl⟩⟩) | (go_at_call 63; (with_reducible refine (spec_l1In.calls a0_4 1 999 true _ A9.out).mono ?_); rintro e w' ⟨rfl, ⟨nd, rfl⟩⟩) | (go_at_call 63; (with_reducible refine (spec_l1In.calls a0_5 1 3 false _ A11.out).mono ?_); rintro e w' ⟨rfl, ⟨nd, rfl⟩⟩))
  go_ret
  exact ⟨by first | rfl | (simp [*, errW_none, errW_some] <;> rfl), by repeat (with_reducible first | exact HB.out | apply below_alloc | apply pw_below_drewN | apply below_drew1 | refine below_set ?_ (Aside0.out ‹_›))⟩
 replace c10 := Bool.eq_false_iff.mpr c10
 subst c10
 rw [if_neg (show ¬ (false = true) by decide)] at H
 obtain rfl := Option.some.inj H
 go_enter Try.func15, Try.ntmps15
 go_wp2_with (first | ((with_reducible refine gd_ 1 rfl ?_); refine bx_ 1 rfl #[.slice A0_0 l0_0.length c0_0, .int .i64 a0_1, .int .i64 a0_2, .int .i64 a0_3, .int .i64 a0_4, .int .i64 a0_5, .int .i64 a0_6] 24 ?_; intro a1 hg w18 hbox hb; have a0 := yaa (hbox); have a2 := yaa ((by rw [hg]; exact (below_size (upH HB.out)) : w.heap.size ≤ a1)); replace HB := yaa (below_step (upH HB.out) hb); have a3 := a2; clear hb hbox hg; obtain ⟨e4, e5, e6, e7, e8, e9, f0⟩ := cc7_ a0.out; obtain ⟨f1, f2, f3, f4, f5, f6⟩ := cf6_ a0.out; have f7 := blk_frozen a0.out 6) | (go_at_call 63; (with_reducible refine (spec_l1In.calls a0_1 1 9 true _ A3.out).mono ?_); rintro e w' ⟨rfl, ⟨nd, rfl⟩⟩) | (go_at_call 63; (with_reducible refine (spec_l1In.calls a0_2 1 99 true _ A5.out).mono ?_); rintro e w' ⟨rfl, ⟨nd, rfl⟩⟩) | (go_at_call 63; (with_reducible refine (spec_l1In.calls a0_3 1 4 true _ A7.out).mono ?_); rintro e w' ⟨rfl, ⟨nd, rfl⟩⟩) | (go_at_call 63; (with_reducible refine (spec_l1In.calls a0_4 1 999 false _ A9.out).mono ?_); rintro e w' ⟨rfl, ⟨nd, rfl⟩⟩))
 go_ret
 exact ⟨by first | rfl | (simp [*, errW_none, errW_some] <;> rfl), by repeat (with_reducible first | exact HB.out | apply below_alloc | apply pw_below_drewN | apply below_drew1 | refine below_set ?_ (Aside0.out ‹_›))⟩
end
section
open Go.Proofs.YtgpkkkmapgnhkaaW.PrintWords.Aside0 renaming mk → yaa
open Go.Proofs.YtgpkkkmapgnhkaaW.PrintWords renaming pw_below_drewN → yab, below_alloc → yac, below_drew1 → yad, below_size → yae, below_step → yaf, blk_frozen → yag, below_set → yah
def spec_OpOk.f (a0_0 : Int) (a0_1 : Int) (a0_2 : Int) (a0_3 : Int) (a0_4 : Int) : Option (Bool) := if a0_0 = 1 then ((spec_l1In.f a0_1 0 5).bind fun t102 => (if t102 = true then ((spec_l1In.f a0_2 0 5).bind fun t103 => (if t103 = true then ((spec_l1In.f a0_3 1 6).bind fun t104 => (if t104 = true then ((spec_l1In.f a0_4 1 6).bind fun t105 => (some t105)) else (some false))) else (some false))) else (some false))) else (if a0_0 = 7 then ((spec_l1In.f a0_1 1 6).bind fun t106 => (if t106 = true then ((spec_l1In.f a0_2 1 6).bind fun t107 => (if t107 = true then (if a0_3 = 0 then (some (a0_4 == 0)) else (some false)) else (some false))) else (some false))) else (if a0_0 = 8 then ((spec_l1In.f a0_1 0 255).bind fun t108 => (if t108 = true then ((spec_l1In.f a0_2 0 255).bind fun t109 => (if t109 = true then ((spec_l1In.f a0_3 0 255).bind fun t110 => (if t110 = true then (some (a0_4 == 0)) else (some false))) else (some false))) else (some false))) else ((spec_l1In.f a0_0 2 6).bind fun t111 => (if t111 = true then (if a0_1 = 0 then (if a0_2 = 0 then (if a0_3 = 0 then (some (a0_4 == 0)) else (some false)) else (some false)) else (some false)) else (some false)))))
set_option maxHeartbeats 8000000 in
set_option maxRecDepth 100000 in
theorem spec_OpOk.calls (a0_0 : Int) (a0_1 : Int) (a0_2 : Int) (a0_3 : Int) (a0_4 : Int) (r : Bool) (w : World) (h : spec_OpOk.f a0_0 a0_1 a0_2 a0_3 a0_4 = some r) :
  Calls Try.prog 119 #[.agg #[.int .i64 a0_0, .int .i64 a0_1, .int .i64 a0_2, .int .i64 a0_3, .int .i64 a0_4]] w fun e w' => e = .returned (.bool r) ∧ Below w.heap.size w w' := by
 have hu146 := Try.underlying146; have HB := yaa (Below.refl w.heap.size w); have H : (if a0_0 = 1 then ((spec_l1In.f a0_1 0 5).bind fun a6 => (if a6 = true then ((spec_l1In.f a0_2 0 5).bind fun a7 => (if a7 = true then ((spec_l1In.f a0_3 1 6).bind fun a8 => (if a8 = true then ((spec_l1In.f a0_4 1 6).bind fun a9 => (some a9)) else (some false))) else (some false))) else (some false))) else (if a0_0 = 7 then ((spec_l1In.f a0_1 1 6).bind fun b0 => (if b0 = true then ((spec_l1In.f a0_2 1 6).bind fun b1 => (if b1 = true then (if a0_3 = 0 then (some (a0_4 == 0)) else (some false)) else (some false))) else (some false))) else (if a0_0 = 8 then ((spec_l1In.f a0_1 0 255).bind fun b2 => (if b2 = true then ((spec_l1In.f a0_2 0 255).bind fun b3 => (if b3 = true then ((spec_l1In.f a0_3 0 255).bind fun b4 => (if b4 = true then (some (a0_4 == 0)) else (some false))) else (some false))) else (some false))) else ((spec_l1In.f a0_0 2 6).bind fun b5 => (if b5 = true then (if a0_1 = 0 then (if a0_2 = 0 then (if a0_3 = 0 then (some (a0_4 == 0)) else (some false)) else (some false)) else (some false)) else (some false)))))) = some r := h; clear h
 by_cases c2 : a0_0 = 1
 ·
  rw [if_pos c2] at H
  have u2 := beq_iff_eq.mpr c2; have u3 := bne_eq_false_iff_eq.mpr c2; clear c2; obtain ⟨a6, A3, H⟩ := bindA H; (try dsimp only at H)
  by_cases c4 : a6 = true
  rotate_left
  ·
   replace c4 := Bool.eq_false_iff.mpr c4
   subst c4
   rw [if_neg (show ¬ (false = true) by decide)] at H
   obtain rfl := Option.some.inj H
   go_enter Try.func119, Try.ntmps119
   go_wp2_with (first | ((with_reducible refine gd_ 1 rfl ?_); refine bx_ 1 rfl #[.int .i64 a0_0, .int .i64 a0_1, .int .i64 a0_2, .int .i64 a0_3, .int .i64 a0_4] 146 ?_; intro a1 hg w16 hbox hb; have a0 := yaa (hbox); have a2 := yaa ((by rw [hg]; exact (yae (upH HB.out)) : w.heap.size ≤ a1)); replace HB := yaa (yaf (upH HB.out) hb); have a3 := a2; clear hb hbox hg; obtain ⟨g2, g3, g4, g5, g6⟩ := cc5_ a0.out; obtain ⟨g7, g8, g9, h0⟩ := cf4_ a0.out; have h1 := yag a0.out 4) | ((with_reducible refine gc_ 63 rfl ?_); refine gl_ (some 9) rfl Try.func63 #[.int .i64 a0_1, .int .i64 0, .int .i64 5] ?_; (with_reducible refine (spec_l1In.calls a0_1 0 5 false _ A3.out).mono ?_); rintro e w' ⟨rfl, ⟨nd, rfl⟩⟩; refine ⟨_, rfl, ?_⟩))
   go_ret
   exact ⟨by first | rfl | (simp [*, errW_none, errW_some] <;> rfl), by repeat (with_reducible first | exact HB.out | apply yac | apply yab | apply yad | refine yah ?_ (Aside0.out ‹_›))⟩
  subst c4
  rw [if_pos rfl] at H
  obtain ⟨a7, A5, H⟩ := bindA H; (try dsimp only at H)
  by_cases c6 : a7 = true
  ·
   subst c6
   rw [if_pos rfl] at H
   obtain ⟨a8, A7, H⟩ := bindA H; (try dsimp only at H)
   by_cases c8 : a8 = true
   ·
    subst c8
    rw [if_pos rfl] at H
    obtain ⟨a9, A9, H⟩ := bindA H; (try dsimp only at H); obtain rfl := Option.some.inj H
    go_enter Try.func119, Try.ntmps119
    go_wp2_with (first | ((with_reducible refine gd_ 1 rfl ?_); refine bx_ 1 rfl #[.int .i64 a0_0, .int .i64 a0_1, .int .i64 a0_2, .int .i64 a0_3, .int .i64 a0_4] 146 ?_; intro a1 hg w10 hbox hb; have a0 := yaa (hbox); have a2 := yaa ((by rw [hg]; exact (yae (upH HB.out)) : w.heap.size ≤ a1)); replace HB := yaa (yaf (upH HB.out) hb); have a3 := a2; clear hb hbox hg; obtain ⟨d2, d3, d4, d5, d6⟩ := cc5_ a0.out; obtain ⟨d7, d8, d9, e0⟩ := cf4_ a0.out; have e1 := yag a0.out 4) | ((with_reducible refine gc_ 63 rfl ?_); refine gl_ (some 9) rfl Try.func63 #[.int .i64 a0_1, .int .i64 0, .int .i64 5] ?_; (with_reducible refine (spec_l1In.calls a0_1 0 5 true _ A3.out).mono ?_); rintro e w' ⟨rfl, ⟨nd, rfl⟩⟩; refine ⟨_, rfl, ?_⟩) | (go_at_call 63; (with_reducible refine (spec_l1In.calls a0_2 0 5 true _ A5.out).mono ?_); rintro e w' ⟨rfl, ⟨nd, rfl⟩⟩) | (go_at_call 63; (with_reducible refine (spec_l1In.calls a0_3 1 6 true _ A7.out).mono ?_); rintro e w' ⟨rfl, ⟨nd, rfl⟩⟩) | (go_at_call 63; (with_reducible refine (spec_l1In.calls a0_4 1 6 a9 _ A9.out).mono ?_); rintro e w' ⟨rfl, ⟨nd, rfl⟩⟩))
    go_ret
    exact ⟨by first | rfl | (simp [*, errW_none, errW_some] <;> rfl), by repeat (with_reducible first | exact HB.out | apply yac | apply yab | apply yad | refine yah ?_ (Aside0.out ‹_›))⟩
   replace c8 := Bool.eq_false_iff.mpr c8
   subst c8
   rw [if_neg (show ¬ (false = true) by decide)] at H
   obtain rfl := Option.some.inj H
   go_enter Try.func119, Try.ntmps119
   go_wp2_with (first | ((with_reducible refine gd_ 1 rfl ?_); refine bx_ 1 rfl #[.int .i64 a0_0, .int .i64 a0_1, .int .i64 a0_2, .int .i64 a0_3, .int .i64 a0_4] 146 ?_; intro a1 hg w12 hbox hb; have a0 := yaa (hbox); have a2 := yaa ((by rw [hg]; exact (yae (upH HB.out)) : w.heap.size ≤ a1)); replace HB := yaa (yaf (upH HB.out) hb); have a3 := a2; clear hb hbox hg; obtain ⟨e2, e3, e4, e5, e6⟩ := cc5_ a0.out; obtain ⟨e7, e8, e9, f0⟩ := cf4_ a0.out; have f1 := yag a0.out 4) | ((with_reducible refine gc_ 63 rfl ?_); refine gl_ (some 9) rfl Try.func63 #[.int .i64 a0_1, .int .i64 0, .int .i64 5] ?_; (with_reducible refine (spec_l1In.calls a0_1 0 5 true _ A3.out).mono ?_); rintro e w' ⟨rfl, ⟨nd, rfl⟩⟩; refine ⟨_, rfl, ?_⟩) | (go_at_call 63; (with_reducible refine (spec_l1In.calls a0_2 0 5 true _ A5.out).mono ?_); rintro e w' ⟨rfl, ⟨nd, rfl⟩⟩) | (go_at_call 63; (with_reducible refine (spec_l1In.calls a0_3 1 6 false _ A7.out).mono ?_); rintro e w' ⟨rfl, ⟨nd, rfl⟩⟩))
   go_ret
   exact ⟨by first | rfl | (simp [*, errW_none, errW_some] <;> rfl), by repeat (with_reducible first | exact HB.out | apply yac | apply yab | apply yad | refine yah ?_ (Aside0.out ‹_›))⟩
  replace c6 := Bool.eq_false_iff.mpr c6
  subst c6
  rw [if_neg (show ¬ (false = true) by decide)] at H
  obtain rfl := Option.some.inj H
  go_enter Try.func119, Try.ntmps119
  go_wp2_with (first | ((with_reducible refine gd_ 1 rfl ?_); refine bx_ 1 rfl #[.int .i64 a0_0, .int .i64 a0_1, .int .i64 a0_2, .int .i64 a0_3, .int .i64 a0_4] 146 ?_; intro a1 hg w14 hbox hb; have a0 := yaa (hbox); have a2 := yaa ((by rw [hg]; exact (yae (upH HB.out)) : w.heap.size ≤ a1)); replace HB := yaa (yaf (upH HB.out) hb); have a3 := a2; clear hb hbox hg; obtain ⟨f2, f3, f4, f5, f6⟩ := cc5_ a0.out; obtain ⟨f7, f8, f9, g0⟩ := cf4_ a0.out; have g1 := yag a0.out 4) | ((with_reducible refine gc_ 63 rfl ?_); refine gl_ (some 9) rfl Try.func63 #[.int .i64 a0_1, .int .i64 0, .int .i64 5] ?_; (with_reducible refine (spec_l1In.calls a0_1 0 5 true _ A3.out).mono ?_); rintro e w' ⟨rfl, ⟨nd, rfl⟩⟩; refine ⟨_, rfl, ?_⟩) | (go_at_call 63; (with_reducible refine (spec_l1In.calls a0_2 0 5 false _ A5.out).mono ?_); rintro e w' ⟨rfl, ⟨nd, rfl⟩⟩))
  go_ret
  exact ⟨by first | rfl | (simp [*, errW_none, errW_some] <;> rfl), by repeat (with_reducible first | exact HB.out | apply yac | apply yab | apply yad | refine yah ?_ (Aside0.out ‹_›))⟩
 rw [if_neg c2] at H
 have u2 := beq_eq_false_iff_ne.mpr c2; have u3 := bne_iff_ne.mpr c2
 by_cases c18 : a0_0 = 7
 ·
  rw [if_pos c18] at H
  have b6 := beq_iff_eq.mpr c18; have b7 := bne_eq_false_iff_eq.mpr c18; clear c18; obtain ⟨b0, A19, H⟩ := bindA H; (try dsimp only at H)
  by_cases c20 : b0 = true
  rotate_left
  ·
   replace c20 := Bool.eq_false_iff.mpr c20
   subst c20
   rw [if_neg (show ¬ (false = true) by decide)] at H
   obtain rfl := Option.some.inj H
   go_enter Try.func119, Try.ntmps119
   go_wp2_with (first | ((with_reducible refine gd_ 1 rfl ?_); refine bx_ 1 rfl #[.int .i64 a0_0, .int .i64 a0_1, .int .i64 a0_2, .int .i64 a0_3, .int .i64 a0_4] 146 ?_; intro a1 hg w30 hbox hb; have a0 := yaa (hbox); have a2 := yaa ((by rw [hg]; exact (yae (upH HB.out)) : w.heap.size ≤ a1)); replace HB := yaa (yaf (upH HB.out) hb); have a3 := a2; clear hb hbox hg; obtain ⟨k2, k3, k4, k5, k6⟩ := cc5_ a0.out; obtain ⟨k7, k8, k9, l0⟩ := cf4_ a0.out; have l1 := yag a0.out 4) | ((with_reducible refine gc_ 63 rfl ?_); refine gl_ (some 29) rfl Try.func63 #[.int .i64 a0_1, .int .i64 1, .int .i64 6] ?_; (with_reducible refine (spec_l1In.calls a0_1 1 6 false _ A19.out).mono ?_); rintro e w' ⟨rfl, ⟨nd, rfl⟩⟩; refine ⟨_, rfl, ?_⟩))
   go_ret
   exact ⟨by first | rfl | (simp [*, errW_none, errW_some] <;> rfl), by repeat (with_reducible first | exact HB.out | apply yac | apply yab | apply yad | refine yah ?_ (Aside0.out ‹_›))⟩
  subst c20
  rw [if_pos rfl] at H
  obtain ⟨b1, A21, H⟩ := bindA H; (try dsimp only at H)
  by_cases c22 : b1 = true
  ·
   subst c22
   rw [if_pos rfl] at H
   by_cases c23 : a0_3 = 0
   ·
    rw [if_pos c23] at H
    have b8 := beq_iff_eq.mpr c23; have b9 := bne_eq_false_iff_eq.mpr c23; clear c23; obtain rfl := Option.some.inj H
    go_enter Try.func119, Try.ntmps119
    go_wp2_with (first | ((with_reducible refine gd_ 1 rfl ?_); refine bx_ 1 rfl #[.int .i64 a0_0, .int .i64 a0_1, .int .i64 a0_2, .int .i64 a0_3, .int .i64 a0_4] 146 ?_; intro a1 hg w24 hbox hb; have a0 := yaa (hbox); have a2 := yaa ((by rw [hg]; exact (yae (upH HB.out)) : w.heap.size ≤ a1)); replace HB := yaa (yaf (upH HB.out) hb); have a3 := a2; clear hb hbox hg; obtain ⟨h2, h3, h4, h5, h6⟩ := cc5_ a0.out; obtain ⟨h7, h8, h9, i0⟩ := cf4_ a0.out; have i1 := yag a0.out 4) | ((with_reducible refine gc_ 63 rfl ?_); refine gl_ (some 29) rfl Try.func63 #[.int .i64 a0_1, .int .i64 1, .int .i64 6] ?_; (with_reducible refine (spec_l1In.calls a0_1 1 6 true _ A19.out).mono ?_); rintro e w' ⟨rfl, ⟨nd, rfl⟩⟩; refine ⟨_, rfl, ?_⟩) | (go_at_call 63; (with_reducible refine (spec_l1In.calls a0_2 1 6 true _ A21.out).mono ?_); rintro e w' ⟨rfl, ⟨nd, rfl⟩⟩))
    go_ret
    exact ⟨by first | rfl | (simp [*, errW_none, errW_some] <;> rfl), by repeat (with_reducible first | exact HB.out | apply yac | apply yab | apply yad | refine yah ?_ (Aside0.out ‹_›))⟩
   rw [if_neg c23] at H
   have b8 := beq_eq_false_iff_ne.mpr c23; have b9 := bne_iff_ne.mpr c23; obtain rfl := Option.some.inj H
   go_enter Try.func119, Try.ntmps119
   go_wp2_with (first | ((with_reducible refine gd_ 1 rfl ?_); refine bx_ 1 rfl #[.int .i64 a0_0, .int .i64 a0_1, .int .i64 a0_2, .int .i64 a0_3, .int .i64 a0_4] 146 ?_; intro a1 hg w26 hbox hb; have a0 := yaa (hbox); have a2 := yaa ((by rw [hg]; exact (yae (upH HB.out)) : w.heap.size ≤ a1)); replace HB := yaa (yaf (upH HB.out) hb); have a3 := a2; clear hb hbox hg; obtain ⟨i2, i3, i4, i5, i6⟩ := cc5_ a0.out; obtain ⟨i7, i8, i9, j0⟩ := cf4_ a0.out; have j1 := yag a0.out 4) | ((with_reducible refine gc_ 63 rfl ?_); refine gl_ (some 29) rfl Try.func63 #[.int .i64 a0_1, .int .i64 1, .int .i64 6] ?_; (with_reducible refine (spec_l1In.calls a0_1 1 6 true _ A19.out).mono ?_); rintro e w' ⟨rfl, ⟨nd, rfl⟩⟩; refine ⟨_, rfl, ?_⟩) | (go_at_call 63; (with_reducible refine (spec_l1In.calls a0_2 1 6 true _ A21.out).mono ?_); rintro e w' ⟨rfl, ⟨nd, rfl⟩⟩))
   go_ret
   exact ⟨by first | rfl | (simp [*, errW_none, errW_some] <;> rfl), by repeat (with_reducible first | exact HB.out | apply yac | apply yab | apply yad | refine yah ?_ (Aside0.out ‹_›))⟩
  replace c22 := Bool.eq_false_iff.mpr c22
  subst c22
  rw [if_neg (show ¬ (false = true) by decide)] at H
  obtain rfl := Option.some.inj H
  go_enter Try.func119, Try.ntmps119
  go_wp2_with (first | ((with_reducible refine gd_ 1 rfl ?_); refine bx_ 1 rfl #[.int .i64 a0_0, .int .i64 a0_1, .int .i64 a0_2, .int .i64 a0_3, .int .i64 a0_4] 146 ?_; intro a1 hg w28 hbox hb; have a0 := yaa (hbox); have a2 := yaa ((by rw [hg]; exact (yae (upH HB.out)) : w.heap.size ≤ a1)); replace HB := yaa (yaf (upH HB.out) hb); have a3 := a2; clear hb hbox hg; obtain ⟨j2, j3, j4, j5, j6⟩ := cc5_ a0.out; obtain ⟨j7, j8, j9, k0⟩ := cf4_ a0.out; have k1 := yag a0.out 4) | ((with_reducible refine gc_ 63 rfl ?_); refine gl_ (some 29) rfl Try.func63 #[.int .i64 a0_1, .int .i64 1, .int .i64 6] ?_; (with_reducible refine (spec_l1In.calls a0_1 1 6 true _ A19.out).mono ?_); rintro e w' ⟨rfl, ⟨nd, rfl⟩⟩; refine ⟨_, rfl, ?_⟩) | (go_at_call 63; (with_reducible refine (spec_l1In.calls a0_2 1 6 false _ A21.out).mono ?_); rintro e w' ⟨rfl, ⟨nd, rfl⟩⟩))
  go_ret
  exact ⟨by first | rfl | (simp [*, errW_none, errW_some] <;> rfl), by repeat (with_reducible first | exact HB.out | apply yac | apply yab | apply yad | refine yah ?_ (Aside0.out ‹_›))⟩
 rw [if_neg c18] at H
 have b6 := beq_eq_false_iff_ne.mpr c18; have b7 := bne_iff_ne.mpr c18
 by_cases c32 : a0_0 = 8
 ·
  rw [if_pos c32] at H
  have c0 := beq_iff_eq.mpr c32; have c1 := bne_eq_false_iff_eq.mpr c32; clear c32; obtain ⟨b2, A33, H⟩ := bindA H; (try dsimp only at H)
  by_cases c34 : b2 = true
  rotate_left
  ·
   replace c34 := Bool.eq_false_iff.mpr c34
   subst c34
   rw [if_neg (show ¬ (false = true) by decide)] at H
   obtain rfl := Option.some.inj H
   go_enter Try.func119, Try.ntmps119
   go_wp2_with (first | ((with_reducible refine gd_ 1 rfl ?_); refine bx_ 1 rfl #[.int .i64 a0_0, .int .i64 a0_1, .int .i64 a0_2, .int .i64 a0_3, .int .i64 a0_4] 146 ?_; intro a1 hg w45 hbox hb; have a0 := yaa (hbox); have a2 := yaa ((by rw [hg]; exact (yae (upH HB.out)) : w.heap.size ≤ a1)); replace HB := yaa (yaf (upH HB.out) hb); have a3 := a2; clear hb hbox hg; obtain ⟨o2, o3, o4, o5, o6⟩ := cc5_ a0.out; obtain ⟨o7, o8, o9, p0⟩ := cf4_ a0.out; have p1 := yag a0.out 4) | ((with_reducible refine gc_ 63 rfl ?_); refine gl_ (some 49) rfl Try.func63 #[.int .i64 a0_1, .int .i64 0, .int .i64 255] ?_; (with_reducible refine (spec_l1In.calls a0_1 0 255 false _ A33.out).mono ?_); rintro e w' ⟨rfl, ⟨nd, rfl⟩⟩; refine ⟨_, rfl, ?_⟩))
   go_ret
   exact ⟨by first | rfl | (simp [*, errW_none, errW_some] <;> rfl), by repeat (with_reducible first | exact HB.out | apply yac | apply yab | apply yad | refine yah ?_ (Aside0.out ‹_›))⟩
  subst c34
  rw [if_pos rfl] at H
  obtain ⟨b3, A35, H⟩ := bindA H; (try dsimp only at H)
  by_cases c36 : b3 = true
  ·
   subst c36
   rw [if_pos rfl] at H
   obtain ⟨b4, A37, H⟩ := bindA H; (try dsimp only at H)
   by_cases c38 : b4 = true
   ·
    subst c38
    rw [if_pos rfl] at H
    obtain rfl := Option.some.inj H
    go_enter Try.func119, Try.ntmps119
    go_wp2_with (first | ((with_reducible refine gd_ 1 rfl ?_); refine bx_ 1 rfl #[.int .i64 a0_0, .int .i64 a0_1, .int .i64 a0_2, .int .i64 a0_3, .int .i64 a0_4] 146 ?_; intro a1 hg w39 hbox hb; have a0 := yaa (hbox); have a2 := yaa ((by rw [hg]; exact (yae (upH HB.out)) : w.heap.size ≤ a1)); replace HB := yaa (yaf (upH HB.out) hb); have a3 := a2; clear hb hbox hg; obtain ⟨l2, l3, l4, l5, l6⟩ := cc5_ a0.out; obtain ⟨l7, l8, l9, m0⟩ := cf4_ a0.out; have m1 := yag a0.out 4) | ((with_reducible refine gc_ 63 rfl ?_); refine gl_ (some 49) rfl Try.func63 #[.int .i64 a0_1, .int .i64 0, .int .i64 255] ?_; (with_reducible refine (spec_l1In.calls a0_1 0 255 true _ A33.out).mono ?_); rintro e w' ⟨rfl, ⟨nd, rfl⟩⟩; refine ⟨_, rfl, ?_⟩) | (go_at_call 63; (with_reducible refine (spec_l1In.calls a0_2 0 255 true _ A35.out).mono ?_); rintro e w' ⟨rfl, ⟨nd, rfl⟩⟩) | (go_at_call 63; (with_reducible refine (spec_l1In.calls a0_3 0 255 true _ A37.out).mono ?_); rintro e w' ⟨rfl, ⟨nd, rfl⟩⟩))
    go_ret
    exact ⟨by first | rfl | (simp [*, errW_none, errW_some] <;> rfl), by repeat (with_reducible first | exact HB.out | apply yac | apply yab | apply yad | refine yah ?_ (Aside0.out ‹_›))⟩
   replace c38 := Bool.eq_false_iff.mpr c38
   subst c38
   rw [if_neg (show ¬ (false = true) by decide)] at H
   obtain rfl := Option.some.inj H
   go_enter Try.func119, Try.ntmps119
   go_wp2_with (first | ((with_reducible refine gd_ 1 rfl ?_); refine bx_ 1 rfl #[.int .i64 a0_0, .int .i64 a0_1, .int .i64 a0_2, .int .i64 a0_3, .int .i64 a0_4] 146 ?_; intro a1 hg w41 hbox hb; have a0 := yaa (hbox); have a2 := yaa ((by rw [hg]; exact (yae (upH HB.out)) : w.heap.size ≤ a1)); replace HB := yaa (yaf (upH HB.out) hb); have a3 := a2; clear hb hbox hg; obtain ⟨m2, m3, m4, m5, m6⟩ := cc5_ a0.out; obtain ⟨m7, m8, m9, n0⟩ := cf4_ a0.out; have n1 := yag a0.out 4) | ((with_reducible refine gc_ 63 rfl ?_); refine gl_ (some 49) rfl Try.func63 #[.int .i64 a0_1, .int .i64 0, .int .i64 255] ?_; (with_reducible refine (spec_l1In.calls a0_1 0 255 true _ A33.out).mono ?_); rintro e w' ⟨rfl, ⟨nd, rfl⟩⟩; refine ⟨_, rfl, ?_⟩) | (go_at_call 63; (with_reducible refine (spec_l1In.calls a0_2 0 255 true _ A35.out).mono ?_); rintro e w' ⟨rfl, ⟨nd, rfl⟩⟩) | (go_at_call 63; (with_reducible refine (spec_l1In.calls a0_3 0 255 false _ A37.out).mono ?_); rintro e w' ⟨rfl, ⟨nd, rfl⟩⟩))
   go_ret
   exact ⟨by first | rfl | (simp [*, errW_none, errW_some] <;> rfl), by repeat (with_reducible first | exact HB.out | apply yac | apply yab | apply yad | refine yah ?_ (Aside0.out ‹_›))⟩
  replace c36 := Bool.eq_false_iff.mpr c36
  subst c36
  rw [if_neg (show ¬ (false = true) by decide)] at H
  obtain rfl := Option.some.inj H
  go_enter Try.func119, Try.ntmps119
  go_wp2_with (first | ((with_reducible refine gd_ 1 rfl ?_); refine bx_ 1 rfl #[.int .i64 a0_0, .int .i64 a0_1, .int .i64 a0_2, .int .i64 a0_3, .int .i64 a0_4] 146 ?_; intro a1 hg w43 hbox hb; have a0 := yaa (hbox); have a2 := yaa ((by rw [hg]; exact (yae (upH HB.out)) : w.heap.size ≤ a1)); replace HB := yaa (yaf (upH HB.out) hb); have a3 := a2; clear hb hbox hg; obtain ⟨n2, n3, n4, n5, n6⟩ := cc5_ a0.out; obtain ⟨n7, n8, n9, o0⟩ := cf4_ a0.out; have o1 := yag a0.out 4) | ((with_reducible refine gc_ 63 rfl ?_); refine gl_ (some 49) rfl Try.func63 #[.int .i64 a0_1, .int .i64 0, .int .i64 255] ?_; (with_reducible refine (spec_l1In.calls a0_1 0 255 true _ A33.out).mono ?_); rintro e w' ⟨rfl, ⟨nd, rfl⟩⟩; refine ⟨_, rfl, ?_⟩) | (go_at_call 63; (with_reducible refine (spec_l1In.calls a0_2 0 255 false _ A35.out).mono ?_); rintro e w' ⟨rfl, ⟨nd, rfl⟩⟩))
  go_ret
  exact ⟨by first | rfl | (simp [*, errW_none, errW_some] <;> rfl), by repeat (with_reducible first | exact HB.out | apply yac | apply yab | apply yad | refine yah ?_ (Aside0.out ‹_›))⟩
 rw [if_neg c32] at H
 have c0 := beq_eq_false_iff_ne.mpr c32; have c1 := bne_iff_ne.mpr c32; obtain ⟨b5, A47, H⟩ := bindA H; (try dsimp only at H)
 by_cases c48 : b5 = true
 rotate_left
 ·
  replace c48 := Bool.eq_false_iff.mpr c48
  subst c48
  rw [if_neg (show ¬ (false = true) by decide)] at H
  obtain rfl := Option.some.inj H
  go_enter Try.func119, Try.ntmps119
  go_wp2_with (first | ((with_reducible refine gd_ 1 rfl ?_); refine bx_ 1 rfl #[.int .i64 a0_0, .int .i64 a0_1, .int .i64 a0_2, .int .i64 a0_3, .int .i64 a0_4] 146 ?_; intro a1 hg w60 hbox hb; have a0 := yaa (hbox); have a2 := yaa ((by rw [hg]; exact (yae (upH HB.out)) : w.heap.size ≤ a1)); replace HB := yaa (yaf (upH HB.out) hb); have a3 := a2; clear hb hbox hg; obtain ⟨t2, t3, t4, t5, t6⟩ := cc5_ a0.out; obtain ⟨t7, t8, t9, u0⟩ := cf4_ a0.out; have u1 := yag a0.out 4) | ((with_reducible refine gc_ 63 rfl ?_); refine gl_ (some 67) rfl Try.func63 #[.int .i64 a0_0, .int .i64 2, .int .i64 6] ?_; (with_reducible refine (spec_l1In.calls a0_0 2 6 false _ A47.out).mono ?_); rintro e w' ⟨rfl, ⟨nd, rfl⟩⟩; refine ⟨_, rfl, ?_⟩))
  go_ret
  exact ⟨by first | rfl | (simp [*, errW_none, errW_some] <;> rfl), by repeat (with_reducible first | exact HB.out | apply yac | apply yab | apply yad | refine yah ?_ (Aside0.out ‹_›))⟩
 subst c48
 rw [if_pos rfl] at H
 by_cases c49 : a0_1 = 0
 rotate_left
 ·
  rw [if_neg c49] at H
  have c3 := beq_eq_false_iff_ne.mpr c49; have c5 := bne_iff_ne.mpr c49; obtain rfl := Option.some.inj H
  go_enter Try.func119, Try.ntmps119
  go_wp2_with (first | ((with_reducible refine gd_ 1 rfl ?_); refine bx_ 1 rfl #[.int .i64 a0_0, .int .i64 a0_1, .int .i64 a0_2, .int .i64 a0_3, .int .i64 a0_4] 146 ?_; intro a1 hg w58 hbox hb; have a0 := yaa (hbox); have a2 := yaa ((by rw [hg]; exact (yae (upH HB.out)) : w.heap.size ≤ a1)); replace HB := yaa (yaf (upH HB.out) hb); have a3 := a2; clear hb hbox hg; obtain ⟨s2, s3, s4, s5, s6⟩ := cc5_ a0.out; obtain ⟨s7, s8, s9, t0⟩ := cf4_ a0.out; have t1 := yag a0.out 4) | ((with_reducible refine gc_ 63 rfl ?_); refine gl_ (some 67) rfl Try.func63 #[.int .i64 a0_0, .int .i64 2, .int .i64 6] ?_; (with_reducible refine (spec_l1In.calls a0_0 2 6 true _ A47.out).mono ?_); rintro e w' ⟨rfl, ⟨nd, rfl⟩⟩; refine ⟨_, rfl, ?_⟩))
  go_ret
  exact ⟨by first | rfl | (simp [*, errW_none, errW_some] <;> rfl), by repeat (with_reducible first | exact HB.out | apply yac | apply yab | apply yad | refine yah ?_ (Aside0.out ‹_›))⟩
 rw [if_pos c49] at H
 have c3 := beq_iff_eq.mpr c49; have c5 := bne_eq_false_iff_eq.mpr c49; clear c49
 by_cases c50 : a0_2 = 0
 ·
  rw [if_pos c50] at H
  have c7 := beq_iff_eq.mpr c50; have c9 := bne_eq_false_iff_eq.mpr c50; clear c50
  by_cases c51 : a0_3 = 0
  ·
   rw [if_pos c51] at H
   have d0 := beq_iff_eq.mpr c51; have d1 := bne_eq_false_iff_eq.mpr c51; clear c51; obtain rfl := Option.some.inj H
   go_enter Try.func119, Try.ntmps119
   go_wp2_with (first | ((with_reducible refine gd_ 1 rfl ?_); refine bx_ 1 rfl #[.int .i64 a0_0, .int .i64 a0_1, .int .i64 a0_2, .int .i64 a0_3, .int .i64 a0_4] 146 ?_; intro a1 hg w52 hbox hb; have a0 := yaa (hbox); have a2 := yaa ((by rw [hg]; exact (yae (upH HB.out)) : w.heap.size ≤ a1)); replace HB := yaa (yaf (upH HB.out) hb); have a3 := a2; clear hb hbox hg; obtain ⟨p2, p3, p4, p5, p6⟩ := cc5_ a0.out; obtain ⟨p7, p8, p9, q0⟩ := cf4_ a0.out; have q1 := yag a0.out 4) | ((with_reducible refine gc_ 63 rfl ?_); refine gl_ (some 67) rfl Try.func63 #[.int .i64 a0_0, .int .i64 2, .int .i64 6] ?_; (with_reducible refine (spec_l1In.calls a0_0 2 6 true _ A47.out).mono ?_); rintro e w' ⟨rfl, ⟨nd, rfl⟩⟩; refine ⟨_, rfl, ?_⟩))
   go_ret
   exact ⟨by first | rfl | (simp [*, errW_none, errW_some] <;> rfl), by repeat (with_reducible first | exact HB.out | apply yac | apply yab | apply yad | refine yah ?_ (Aside0.out ‹_›))⟩
  rw [if_neg c51] at H
  have d0 := beq_eq_false_iff_ne.mpr c51; have d1 := bne_iff_ne.mpr c51; obtain rfl := Option.some.inj H
  go_enter Try.func119, Try.ntmps119
  go_wp2_with (first | ((with_reducible refine gd_ 1 rfl ?_); refine bx_ 1 rfl #[.int .i64 a0_0, .int .i64 a0_1, .int .i64 a0_2, .int .i64 a0_3, .int .i64 a0_4] 146 ?_; intro a1 hg w54 hbox hb; have a0 := yaa (hbox); have a2 := yaa ((by rw [hg]; exact (yae (upH HB.out)) : w.heap.size ≤ a1)); replace HB := yaa (yaf (upH HB.out) hb); have a3 := a2; clear hb hbox hg; obtain ⟨q2, q3, q4, q5, q6⟩ := cc5_ a0.out; obtain ⟨q7, q8, q9, r0⟩ := cf4_ a0.out; have r1 := yag a0.out 4) | ((with_reducible refine gc_ 63 rfl ?_); refine gl_ (some 67) rfl Try.func63 #[.int .i64 a0_0, .int .i64 2, .int .i64 6] ?_; (with_reducible refine (spec_l1In.calls a0_0 2 6 true _ A47.out).mono ?_); rintro e w' ⟨rfl, ⟨nd, rfl⟩⟩; refine ⟨_, rfl, ?_⟩))
  go_ret
  exact ⟨by first | rfl | (simp [*, errW_none, errW_some] <;> rfl), by repeat (with_reducible first | exact HB.out | apply yac | apply yab | apply yad | refine yah ?_ (Aside0.out ‹_›))⟩
 rw [if_neg c50] at H
 have c7 := beq_eq_false_iff_ne.mpr c50; have c9 := bne_iff_ne.mpr c50; obtain rfl := Option.some.inj H
 go_enter Try.func119, Try.ntmps119
 go_wp2_with (first | ((with_reducible refine gd_ 1 rfl ?_); refine bx_ 1 rfl #[.int .i64 a0_0, .int .i64 a0_1, .int .i64 a0_2, .int .i64 a0_3, .int .i64 a0_4] 146 ?_; intro a1 hg w56 hbox hb; have a0 := yaa (hbox); have a2 := yaa ((by rw [hg]; exact (yae (upH HB.out)) : w.heap.size ≤ a1)); replace HB := yaa (yaf (upH HB.out) hb); have a3 := a2; clear hb hbox hg; obtain ⟨r2, r3, r4, r5, r6⟩ := cc5_ a0.out; obtain ⟨r7, r8, r9, s0⟩ := cf4_ a0.out; have s1 := yag a0.out 4) | ((with_reducible refine gc_ 63 rfl ?_); refine gl_ (some 67) rfl Try.func63 #[.int .i64 a0_0, .int .i64 2, .int .i64 6] ?_; (with_reducible refine (spec_l1In.calls a0_0 2 6 true _ A47.out).mono ?_); rintro e w' ⟨rfl, ⟨nd, rfl⟩⟩; refine ⟨_, rfl, ?_⟩))
 go_ret
 exact ⟨by first | rfl | (simp [*, errW_none, errW_some] <;> rfl), by repeat (with_reducible first | exact HB.out | apply yac | apply yab | apply yad | refine yah ?_ (Aside0.out ‹_›))⟩
end
section
def spec_l6All.l0 : Nat → List (S146) → Int → Option (Bool)
 | 0, _, _ => none
 | k + 1, x0, x3 => if x3 < (x0.length : Int) then (if 0 ≤ x3 then ((spec_OpOk.f ((rd_T146 x0 x3).f0) ((rd_T146 x0 x3).f1) ((rd_T146 x0 x3).f2) ((rd_T146 x0 x3).f3) ((rd_T146 x0 x3).f4)).bind fun t102 => (if t102 = true then (spec_l6All.l0 k x0 (wrap64 (x3 + 1))) else (some false))) else (none)) else (some (decide ((x0.length : Int) ≤ 5)))
def spec_l6All.f (k : Nat) (l0 : List (S146)) : Option (Bool) := spec_l6All.l0 k l0 0
set_option maxHeartbeats 8000000 in
set_option maxRecDepth 100000 in
theorem spec_l6All.calls (k : Nat) (A0 : Option Addr) (c0 : Nat) (l0 : List (S146)) (r : Bool) (w : World) (hr0 : Kd.C k146 w A0 l0.length l0) (hc0 : l0.length ≤ c0) (h : spec_l6All.f k l0 = some r) :
  Calls Try.prog 69 #[.slice A0 l0.length c0] w fun e w' => e = .returned (.bool r) ∧ Below w.heap.size w w' := by
 have hu146 := Try.underlying146; have HR0 := Aside0.mk hr0; have HC0 := Aside0.mk hc0; clear hr0 hc0; have HB := Aside0.mk (Below.refl w.heap.size w); have H : (spec_l6All.l0 k l0 0) = some r := h; clear h; have H' := Aside0.mk H; clear H
 go_enter Try.func69, Try.ntmps69
 go_wp2
 (try simp only [Act.put, List.setIfInBounds_toArray, List.set_cons_zero, List.set_cons_succ])
 go_loopg [3] k (fun kq v3 w' => ∃ (a1 : Int), v3 = .int .i64 a1 ∧ Aside0 (spec_l6All.l0 kq l0 a1 = some r) ∧ Aside0 (kq ≤ k) ∧ Aside0 (Below w.heap.size w w'))
 case atStart => exact ⟨(0), (by first | rfl | (simp; done) | (simp [*]; done)), H', ⟨Nat.le_refl _⟩, ⟨upH HB.out⟩⟩
 case round =>
  clear H'; obtain ⟨a1, rfl, HA, HK1, HB⟩ := hrel
  cases gk with
  | zero => exact absurd HA.out (by simp [spec_l6All.l0])
  | succ k1 =>
   have H := HA.out; clear HA
   simp only [spec_l6All.l0] at H
   by_cases c2 : a1 < (l0.length : Int)
   rotate_left
   ·
    rw [if_neg c2] at H
    have a8 : decide (a1 < (l0.length : Int)) = false := decide_eq_false c2; clear c2; obtain rfl := Option.some.inj H
    go_wp2
    go_ret
    exact ⟨by first | rfl | (simp [*, errW_none, errW_some] <;> rfl), upH HB.out⟩
   rw [if_pos c2] at H
   have a8 : decide (a1 < (l0.length : Int)) = true := decide_eq_true c2; clear c2
   by_cases c3 : 0 ≤ a1
   rotate_left
   ·
    rw [if_neg c3] at H
    exact absurd H (by simp)
   rw [if_pos c3] at H
   replace c3 := decide_eq_true c3; obtain ⟨a9, A4, H⟩ := bindA H; (try dsimp only at H)
   by_cases c5 : a9 = true
   ·
    subst c5
    rw [if_pos rfl] at H
    have H' := Aside0.mk H; clear H; have p101 : 0 ≤ (a1 : Int) := of_decide_eq_true (by assumption); have q101 : a1 < (l0.length : Int) := of_decide_eq_true (by assumption); obtain ⟨ad101, a7, a2, a3, a4, a5, a6⟩ := at_T146 HR0.out a1 p101 q101
    cases a7
    replace a2 := (upc_ HB.out a2 :); replace a3 := (upc_ HB.out a3 :); replace a4 := (upc_ HB.out a4 :); replace a5 := (upc_ HB.out a5 :); replace a6 := (upc_ HB.out a6 :); replace p101 := eq_true p101; replace q101 := eq_true q101
    go_wp2_with (first | ((with_reducible refine gc_ 119 rfl ?_); refine gl_ (some 14) rfl Try.func119 #[.agg #[.int .i64 ((rd_T146 l0 a1).f0), .int .i64 ((rd_T146 l0 a1).f1), .int .i64 ((rd_T146 l0 a1).f2), .int .i64 ((rd_T146 l0 a1).f3), .int .i64 ((rd_T146 l0 a1).f4)]] ?_; (with_reducible refine (spec_OpOk.calls ((rd_T146 l0 a1).f0) ((rd_T146 l0 a1).f1) ((rd_T146 l0 a1).f2) ((rd_T146 l0 a1).f3) ((rd_T146 l0 a1).f4) true _ A4.out).mono ?_); rintro e w6 ⟨rfl, hb⟩; refine ⟨_, rfl, ?_⟩; replace HB := Aside0.mk (below_step (upH HB.out) hb); (try clear hb)))
    go_roundg k1
    case measure => have := HK1.out; omega
    case rel => exact ⟨(wrap64 (a1 + 1)), (by first | rfl | (simp; done) | (simp [*]; done)), H', ⟨by have := HK1.out; omega⟩, ⟨upH HB.out⟩⟩
   replace c5 := Bool.eq_false_iff.mpr c5
   subst c5
   rw [if_neg (show ¬ (false = true) by decide)] at H
   obtain rfl := Option.some.inj H; have p101 : 0 ≤ (a1 : Int) := of_decide_eq_true (by assumption); have q101 : a1 < (l0.length : Int) := of_decide_eq_true (by assumption); obtain ⟨ad101, a7, a2, a3, a4, a5, a6⟩ := at_T146 HR0.out a1 p101 q101
   cases a7
   replace a2 := (upc_ HB.out a2 :); replace a3 := (upc_ HB.out a3 :); replace a4 := (upc_ HB.out a4 :); replace a5 := (upc_ HB.out a5 :); replace a6 := (upc_ HB.out a6 :); replace p101 := eq_true p101; replace q101 := eq_true q101
   go_wp2_with (first | ((with_reducible refine gc_ 119 rfl ?_); refine gl_ (some 14) rfl Try.func119 #[.agg #[.int .i64 ((rd_T146 l0 a1).f0), .int .i64 ((rd_T146 l0 a1).f1), .int .i64 ((rd_T146 l0 a1).f2), .int .i64 ((rd_T146 l0 a1).f3), .int .i64 ((rd_T146 l0 a1).f4)]] ?_; (with_reducible refine (spec_OpOk.calls ((rd_T146 l0 a1).f0) ((rd_T146 l0 a1).f1) ((rd_T146 l0 a1).f2) ((rd_T146 l0 a1).f3) ((rd_T146 l0 a1).f4) false _ A4.out).mono ?_); rintro e w7 ⟨rfl, hb⟩; refine ⟨_, rfl, ?_⟩; replace HB := Aside0.mk (below_step (upH HB.out) hb); (try clear hb)))
   go_ret
   exact ⟨by first | rfl | (simp [*, errW_none, errW_some] <;> rfl), upH HB.out⟩
end
section
mutual
def spec_l7Path.j0 : Nat → ByteArray → Bool → Option (Bool)
 | 0, _, _ => none
 | k + 1, x0, x11 => if x11 = true then (some false) else (spec_l7Path.l0 k x0 0)
def spec_l7Path.l0 : Nat → ByteArray → Int → Option (Bool)
 | 0, _, _ => none
 | k + 1, x0, x3 => if x3 < (x0.size : Int) then (if 0 ≤ x3 then (if (bt x0 x3) < 97 then (if (bt x0 x3) < 48 then (some false) else (if (bt x0 x3) > 57 then (some false) else (spec_l7Path.l0 k x0 (wrap64 (x3 + 1))))) else (if (bt x0 x3) > 122 then (if (bt x0 x3) < 48 then (some false) else (if (bt x0 x3) > 57 then (some false) else (spec_l7Path.l0 k x0 (wrap64 (x3 + 1))))) else (spec_l7Path.l0 k x0 (wrap64 (x3 + 1))))) else (none)) else (some true)
end
def spec_l7Path.f (k : Nat) (a0 : ByteArray) : Option (Bool) := if (a0.size : Int) = 0 then (spec_l7Path.j0 k a0 true) else (spec_l7Path.j0 k a0 (decide ((a0.size : Int) > 6)))
set_option maxHeartbeats 8000000 in
set_option maxRecDepth 100000 in
theorem spec_l7Path.calls (k : Nat) (a0 : ByteArray) (r : Bool) (w : World) (h : spec_l7Path.f k a0 = some r) :
  Calls Try.prog 70 #[.string a0] w fun e w' => e = .returned (.bool r) ∧ Drawn0 w w' := by
 have H : (if (a0.size : Int) = 0 then (spec_l7Path.j0 k a0 true) else (spec_l7Path.j0 k a0 (decide ((a0.size : Int) > 6)))) = some r := h; clear h; have HC2 := Aside0.mk H; clear H
 go_enter Try.func70, Try.ntmps70
 go_upto_region 1 with (fail)
 go_cut [11] (fun v11 wc => ∃ (kq : Nat) (a3 : Bool), v11 = .bool a3 ∧ Aside0 (spec_l7Path.j0 kq a0 a3 = some r) ∧ Aside0 (kq ≤ k) ∧ Drawn0 w wc)
 case first =>
  have H := HC2.out; clear HC2
  by_cases c3 : (a0.size : Int) = 0
  ·
   rw [if_pos c3] at H
   have a2 := beq_iff_eq.mpr c3; have a4 := bne_eq_false_iff_eq.mpr c3; clear c3
   (first | rw [a2] | (simp only [i64_w, i32_w]; rw [a2]) | skip)
   have H' := Aside0.mk H; clear H
   go_wp2
   go_meet
   case rel => exact ⟨_, (true), (by first | rfl | (simp; done) | (simp [*]; done)), H', ⟨by first | omega | exact Nat.le_refl _⟩, by repeat (first | exact Drawn0.refl _ | apply Drawn0.step)⟩
  rw [if_neg c3] at H
  have a2 := beq_eq_false_iff_ne.mpr c3; have a4 := bne_iff_ne.mpr c3
  (first | rw [a2] | (simp only [i64_w, i32_w]; rw [a2]) | skip)
  have H' := Aside0.mk H; clear H
  go_wp2
  go_meet
  case rel => exact ⟨_, (decide ((a0.size : Int) > 6)), (by first | rfl | (simp; done) | (simp [*]; done)), H', ⟨by first | omega | exact Nat.le_refl _⟩, by repeat (first | exact Drawn0.refl _ | apply Drawn0.step)⟩
 case rest =>
  clear HC2; (try clear p2); (try clear c3); (try clear a2); (try clear a4); obtain ⟨kq, a3, rfl, HA, HJ1, ⟨mc1, rfl⟩⟩ := hcut
  cases kq with
  | zero => exact absurd HA.out (by simp [spec_l7Path.j0])
  | succ kj1 =>
   have H := HA.out; clear HA
   simp only [spec_l7Path.j0] at H
   by_cases c4 : a3 = true
   ·
    subst c4
    rw [if_pos rfl] at H
    obtain rfl := Option.some.inj H
    go_wp2
    go_ret
    exact ⟨by first | rfl | (simp; done) | (simp [*]; done), by repeat (first | exact Drawn0.refl _ | apply Drawn0.step)⟩
   replace c4 := Bool.eq_false_iff.mpr c4
   subst c4
   rw [if_neg (show ¬ (false = true) by decide)] at H
   have H' := Aside0.mk H; clear H
   go_wp2
   (try simp only [Act.put, List.setIfInBounds_toArray, List.set_cons_zero, List.set_cons_succ])
   go_loopg [3] kj1 (fun kq v3 w' => ∃ (a1 : Int), v3 = .int .i64 a1 ∧ Aside0 (spec_l7Path.l0 kq a0 a1 = some r) ∧ Aside0 (kq ≤ kj1) ∧ Drawn0 w w')
   case atStart => exact ⟨(0), (by first | rfl | (simp; done) | (simp [*]; done)), H', ⟨Nat.le_refl _⟩, by repeat (first | exact Drawn0.refl _ | apply Drawn0.step)⟩
   case round =>
    clear H'; (try clear c1); (try clear p2); (try clear c3); (try clear a2); (try clear a4); (try clear c4); (try clear p2); obtain ⟨a1, rfl, HA, HK2, ⟨m2, rfl⟩⟩ := hrel
    cases gk with
    | zero => exact absurd HA.out (by simp [spec_l7Path.l0])
    | succ k2 =>
     have H := HA.out; clear HA
     simp only [spec_l7Path.l0] at H
     by_cases c5 : a1 < (a0.size : Int)
     rotate_left
     ·
      rw [if_neg c5] at H
      have b2 : decide (a1 < (a0.size : Int)) = false := decide_eq_false c5; clear c5; obtain rfl := Option.some.inj H
      go_wp2
      go_ret
      exact ⟨by first | rfl | (simp; done) | (simp [*]; done), by repeat (first | exact Drawn0.refl _ | apply Drawn0.step)⟩
     rw [if_pos c5] at H
     have b2 : decide (a1 < (a0.size : Int)) = true := decide_eq_true c5; clear c5
     by_cases c6 : 0 ≤ a1
     rotate_left
     ·
      rw [if_neg c6] at H
      exact absurd H (by simp)
     rw [if_pos c6] at H
     replace c6 := decide_eq_true c6
     by_cases c8 : (bt a0 a1) < 97
     ·
      rw [if_pos c8] at H
      have b3 : decide ((bt a0 a1) < 97) = true := decide_eq_true c8; clear c8
      by_cases c10 : (bt a0 a1) < 48
      ·
       rw [if_pos c10] at H
       have a6 : decide ((bt a0 a1) < 48) = true := decide_eq_true c10; clear c10; obtain rfl := Option.some.inj H; have p7 : 0 ≤ (a1 : Int) := of_decide_eq_true (by assumption); have q7 : a1 < (a0.size : Int) := of_decide_eq_true (by assumption); have hx7 := bt_at a0 a1; replace p7 := eq_true p7; replace q7 := eq_true q7; have p9 : 0 ≤ (a1 : Int) := of_decide_eq_true (by assumption); have q9 : a1 < (a0.size : Int) := of_decide_eq_true (by assumption); have hx9 := bt_at a0 a1; replace p9 := eq_true p9; replace q9 := eq_true q9
       go_wp2
       go_ret
       exact ⟨by first | rfl | (simp; done) | (simp [*]; done), by repeat (first | exact Drawn0.refl _ | apply Drawn0.step)⟩
      rw [if_neg c10] at H
      have a6 : decide ((bt a0 a1) < 48) = false := decide_eq_false c10; clear c10
      by_cases c12 : (bt a0 a1) > 57
      ·
       rw [if_pos c12] at H
       have a7 : decide (57 < (bt a0 a1)) = true := decide_eq_true c12; clear c12; obtain rfl := Option.some.inj H; have p7 : 0 ≤ (a1 : Int) := of_decide_eq_true (by assumption); have q7 : a1 < (a0.size : Int) := of_decide_eq_true (by assumption); have hx7 := bt_at a0 a1; replace p7 := eq_true p7; replace q7 := eq_true q7; have p9 : 0 ≤ (a1 : Int) := of_decide_eq_true (by assumption); have q9 : a1 < (a0.size : Int) := of_decide_eq_true (by assumption); have hx9 := bt_at a0 a1; replace p9 := eq_true p9; replace q9 := eq_true q9; have p11 : 0 ≤ (a1 : Int) := of_decide_eq_true (by assumption); have q11 : a1 < (a0.size : Int) := of_decide_eq_true (by assumption); have b4 := bt_at a0 a1; replace p11 := eq_true p11; replace q11 := eq_true q11
       go_wp2
       go_ret
       exact ⟨by first | rfl | (simp; done) | (simp [*]; done), by repeat (first | exact Drawn0.refl _ | apply Drawn0.step)⟩
      rw [if_neg c12] at H
      have a7 : decide (57 < (bt a0 a1)) = false := decide_eq_false c12; clear c12; have H' := Aside0.mk H; clear H; have p7 : 0 ≤ (a1 : Int) := of_decide_eq_true (by assumption); have q7 : a1 < (a0.size : Int) := of_decide_eq_true (by assumption); have hx7 := bt_at a0 a1; replace p7 := eq_true p7; replace q7 := eq_true q7; have p9 : 0 ≤ (a1 : Int) := of_decide_eq_true (by assumption); have q9 : a1 < (a0.size : Int) := of_decide_eq_true (by assumption); have hx9 := bt_at a0 a1; replace p9 := eq_true p9; replace q9 := eq_true q9; have p11 : 0 ≤ (a1 : Int) := of_decide_eq_true (by assumption); have q11 : a1 < (a0.size : Int) := of_decide_eq_true (by assumption); have b4 := bt_at a0 a1; replace p11 := eq_true p11; replace q11 := eq_true q11
      go_wp2
      go_roundg k2
      case measure => have := HJ1.out; have := HK2.out; omega
      case rel => exact ⟨(wrap64 (a1 + 1)), (by first | rfl | (simp; done) | (simp [*]; done)), H', ⟨by have := HJ1.out; have := HK2.out; omega⟩, by repeat (first | exact Drawn0.refl _ | apply Drawn0.step)⟩
     rw [if_neg c8] at H
     have b3 : decide ((bt a0 a1) < 97) = false := decide_eq_false c8; clear c8
     by_cases c14 : (bt a0 a1) > 122
     ·
      rw [if_pos c14] at H
      have a8 : decide (122 < (bt a0 a1)) = true := decide_eq_true c14; clear c14
      by_cases c16 : (bt a0 a1) < 48
      ·
       rw [if_pos c16] at H
       have a9 : decide ((bt a0 a1) < 48) = true := decide_eq_true c16; clear c16; obtain rfl := Option.some.inj H; have p7 : 0 ≤ (a1 : Int) := of_decide_eq_true (by assumption); have q7 : a1 < (a0.size : Int) := of_decide_eq_true (by assumption); have hx7 := bt_at a0 a1; replace p7 := eq_true p7; replace q7 := eq_true q7; have p13 : 0 ≤ (a1 : Int) := of_decide_eq_true (by assumption); have q13 : a1 < (a0.size : Int) := of_decide_eq_true (by assumption); have a5 := bt_at a0 a1; replace p13 := eq_true p13; replace q13 := eq_true q13; have p15 : 0 ≤ (a1 : Int) := of_decide_eq_true (by assumption); have q15 : a1 < (a0.size : Int) := of_decide_eq_true (by assumption); have b0 := bt_at a0 a1; replace p15 := eq_true p15; replace q15 := eq_true q15
       go_wp2
       go_ret
       exact ⟨by first | rfl | (simp; done) | (simp [*]; done), by repeat (first | exact Drawn0.refl _ | apply Drawn0.step)⟩
      rw [if_neg c16] at H
      have a9 : decide ((bt a0 a1) < 48) = false := decide_eq_false c16; clear c16
      by_cases c18 : (bt a0 a1) > 57
      ·
       rw [if_pos c18] at H
       have b1 : decide (57 < (bt a0 a1)) = true := decide_eq_true c18; clear c18; obtain rfl := Option.some.inj H; have p7 : 0 ≤ (a1 : Int) := of_decide_eq_true (by assumption); have q7 : a1 < (a0.size : Int) := of_decide_eq_true (by assumption); have hx7 := bt_at a0 a1; replace p7 := eq_true p7; replace q7 := eq_true q7; have p13 : 0 ≤ (a1 : Int) := of_decide_eq_true (by assumption); have q13 : a1 < (a0.size : Int) := of_decide_eq_true (by assumption); have a5 := bt_at a0 a1; replace p13 := eq_true p13; replace q13 := eq_true q13; have p15 : 0 ≤ (a1 : Int) := of_decide_eq_true (by assumption); have q15 : a1 < (a0.size : Int) := of_decide_eq_true (by assumption); have b0 := bt_at a0 a1; replace p15 := eq_true p15; replace q15 := eq_true q15; have p17 : 0 ≤ (a1 : Int) := of_decide_eq_true (by assumption); have q17 : a1 < (a0.size : Int) := of_decide_eq_true (by assumption); have b5 := bt_at a0 a1; replace p17 := eq_true p17; replace q17 := eq_true q17
       go_wp2
       go_ret
       exact ⟨by first | rfl | (simp; done) | (simp [*]; done), by repeat (first | exact Drawn0.refl _ | apply Drawn0.step)⟩
      rw [if_neg c18] at H
      have b1 : decide (57 < (bt a0 a1)) = false := decide_eq_false c18; clear c18; have H' := Aside0.mk H; clear H; have p7 : 0 ≤ (a1 : Int) := of_decide_eq_true (by assumption); have q7 : a1 < (a0.size : Int) := of_decide_eq_true (by assumption); have hx7 := bt_at a0 a1; replace p7 := eq_true p7; replace q7 := eq_true q7; have p13 : 0 ≤ (a1 : Int) := of_decide_eq_true (by assumption); have q13 : a1 < (a0.size : Int) := of_decide_eq_true (by assumption); have a5 := bt_at a0 a1; replace p13 := eq_true p13; replace q13 := eq_true q13; have p15 : 0 ≤ (a1 : Int) := of_decide_eq_true (by assumption); have q15 : a1 < (a0.size : Int) := of_decide_eq_true (by assumption); have b0 := bt_at a0 a1; replace p15 := eq_true p15; replace q15 := eq_true q15; have p17 : 0 ≤ (a1 : Int) := of_decide_eq_true (by assumption); have q17 : a1 < (a0.size : Int) := of_decide_eq_true (by assumption); have b5 := bt_at a0 a1; replace p17 := eq_true p17; replace q17 := eq_true q17
      go_wp2
      go_roundg k2
      case measure => have := HJ1.out; have := HK2.out; omega
      case rel => exact ⟨(wrap64 (a1 + 1)), (by first | rfl | (simp; done) | (simp [*]; done)), H', ⟨by have := HJ1.out; have := HK2.out; omega⟩, by repeat (first | exact Drawn0.refl _ | apply Drawn0.step)⟩
     rw [if_neg c14] at H
     have a8 : decide (122 < (bt a0 a1)) = false := decide_eq_false c14; clear c14; have H' := Aside0.mk H; clear H; have p7 : 0 ≤ (a1 : Int) := of_decide_eq_true (by assumption); have q7 : a1 < (a0.size : Int) := of_decide_eq_true (by assumption); have hx7 := bt_at a0 a1; replace p7 := eq_true p7; replace q7 := eq_true q7; have p13 : 0 ≤ (a1 : Int) := of_decide_eq_true (by assumption); have q13 : a1 < (a0.size : Int) := of_decide_eq_true (by assumption); have a5 := bt_at a0 a1; replace p13 := eq_true p13; replace q13 := eq_true q13
     go_wp2
     go_roundg k2
     case measure => have := HJ1.out; have := HK2.out; omega
     case rel => exact ⟨(wrap64 (a1 + 1)), (by first | rfl | (simp; done) | (simp [*]; done)), H', ⟨by have := HJ1.out; have := HK2.out; omega⟩, by repeat (first | exact Drawn0.refl _ | apply Drawn0.step)⟩
end
end Go.Proofs.Ytgpkkkmapgnhkaa.X
