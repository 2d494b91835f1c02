/- Lemmas and contracts for the law FnExactAskRead, part 3: of the program's functions, and over data alone. Conditions: the listed package-level variables begin as the program's text lays them (tied by the card). -/
import Derived.Test.YtfafjpfigphchaaDoorMFnExactAskRead2
namespace Go.Proofs.YtfafjpfigphchaaDoor.X
open Go.RowKit Go.Proofs.YtfafjpfigphchaaDoorW.PrintWords Go.Proofs.YtfafjpfigphchaaDoorW.PrintLast Go.Proofs.YtfafjpfigphchaaDoorW.PrintMore
attribute [local go_sem] max2_int min2_int max_two min_two max_three min_three max_four min_four
set_option linter.unusedVariables false
set_option linter.unusedSimpArgs false

section
open Go.Proofs.YtfafjpfigphchaaDoorW.PrintWords.Aside0 renaming mk → yaa
open Go.Proofs.YtfafjpfigphchaaDoorW.PrintWords renaming pw_below_drewN → yab, below_drew1 → yad, below_alloc → yae, below_set → yaf, add_block → yai, blk_below → yak, below_step → yal, Aside0 → yan, below_size → yap
open Go.Proofs.YtfafjpfigphchaaDoorW.PrintWords.Kd renaming own_blk → yac, R_ne → yag, R_below → yah, R_far → yaj, R_reads' → yam, R_drew → yao

abbrev q17_0 : Array Bool := Array.replicate 12 false
abbrev q17_1 : Array Bool := bl_ 12 1
abbrev q17_2 : Array Bool := bl_ 12 3
abbrev q17_3 : Array Bool := bl_ 12 7
abbrev q17_4 : Array Bool := bl_ 12 23
abbrev q17_5 : Array Bool := bl_ 12 55
abbrev q17_6 : Array Bool := bl_ 12 63
abbrev q17_7 : Array Bool := bl_ 12 127
abbrev q17_8 : Array Bool := bl_ 12 255
abbrev q17_9 : Array Bool := bl_ 12 2047
abbrev q17_10 : Array Bool := bl_ 12 511
abbrev q17_11 : Array Bool := bl_ 12 1279
abbrev q17_12 : Array Bool := bl_ 12 1023
abbrev q17_13 : Array Bool := bl_ 12 1535
abbrev q17_14 : Array Bool := bl_ 12 4095
mutual
def spec_AskRead.j0 : Nat → ByteArray → List ByteArray → Bool → Option ((List (S23)) × ByteArray × Int × Bool)
 | 0, _, _, _ => none
 | k + 1, x0, x4, x18 => if x18 = true then (some (([] : List (S23)), (⟨#[]⟩ : ByteArray), 0, false)) else (if 1 < (x4.length : Int) then ((spec_l7Read.f k (rdOf ByteArray.empty x4 1)).bind fun bt106 => (if 2 < (x4.length : Int) then ((spec_l7Cut.f k (rdOf ByteArray.empty x4 2) 63).bind fun t111 => (if bt106.2 = true then (if (t111.length : Int) = 2 then (if 1 < (t111.length : Int) then (spec_AskRead.j1 k x0 bt106.1 t111 (decide (((rdOf ByteArray.empty t111 1).size : Int) < 3))) else (none)) else (spec_AskRead.j1 k x0 bt106.1 t111 true)) else (spec_AskRead.j1 k x0 bt106.1 t111 true))) else (none))) else (none))
def spec_AskRead.j1 : Nat → ByteArray → List (S23) → List ByteArray → Bool → Option ((List (S23)) × ByteArray × Int × Bool)
 | 0, _, _, _, _ => none
 | k + 1, x0, x5, x7, x44 => if x44 = true then (some (([] : List (S23)), (⟨#[]⟩ : ByteArray), 0, false)) else (if 0 < (x7.length : Int) then (if 1 < (x7.length : Int) then (if 2 ≤ ((rdOf ByteArray.empty x7 1).size : Int) then ((spec_l7Num.f k ((rdOf ByteArray.empty x7 1).extract 2 (rdOf ByteArray.empty x7 1).size)).bind fun t117 => ((spec_AskText.f k x5 (rdOf ByteArray.empty x7 0) t117).bind fun t119 => (if t119.toList = x0.toList then (if x0.toList = ([] : List UInt8) then (some (([] : List (S23)), (⟨#[]⟩ : ByteArray), 0, false)) else (some (x5, rdOf ByteArray.empty x7 0, t117, true))) else (some (([] : List (S23)), (⟨#[]⟩ : ByteArray), 0, false))))) else (none)) else (none)) else (none))
end
def spec_AskRead.f (k : Nat) (a0 : ByteArray) : Option ((List (S23)) × ByteArray × Int × Bool) := (spec_l7Cut.f k a0 47).bind fun t102 => (if (a0.size : Int) > 200 then (spec_AskRead.j0 k a0 t102 true) else (spec_AskRead.j0 k a0 t102 ((t102.length : Int) != 3)))
def spec_AskRead.T8 : Bool × List (List Nat × List Nat) := (true, [([], []), ([], []), ([1], [1]), ([2], [2]), ([], []), ([4], [4]), ([5], [5]), ([6], [6]), ([7], [7]), ([0, 3, 8], [0, 3, 8]), ([], []), ([10, 9, 8, 0, 1, 2, 3, 4, 5, 6, 7, 8, 9, 10], [9, 10])])
def spec_AskRead.B8 : List Nat := [0, 0, 2, 6, 0, 16, 48, 112, 240, 511, 0, 2047]
theorem spec_AskRead.tab8 : rtab .any (opsOf Tryd.f17 8) = spec_AskRead.T8 := by kernel_rfl
theorem spec_AskRead.bits8 : waitsOk spec_AskRead.T8.2 spec_AskRead.B8 = true := by kernel_rfl
theorem ld3_ {ev : Operand → Value} {W : World} {b : Nat} {A : Option Addr} {n c : Nat} {p : ByteArray} {x : Int} {ps : String} (he : ev (.tmp 8) = .pointer (some ⟨b, 0, none⟩)) (h : W.heap[b]? = some (.cells #[.slice A n c, .string p, .int .i64 x] 37 (0, 0))) : (execOp ev { dst := some 56, op := .load 37 (.tmp 8), type := 37, pos := ps, after := #[], guard := none }).run Tryd.prog W = .ok (.value (.agg #[.slice A n c, .string p, .int .i64 x])) W := by
 have hu := Tryd.underlying37
 obtain ⟨a0, a1, a2⟩ := cc3_ h; clear h
 go_simp
theorem st3_ {ev : Operand → Value} {W : World} {b : Nat} {A : Option Addr} {n c : Nat} {p : ByteArray} {x : Int} {ps : String} {af : Array Edge} (he : ev (.tmp 8) = .pointer (some ⟨b, 0, none⟩)) (hv : ev (.tmp 55) = .agg #[.slice A n c, .string p, .int .i64 x]) (h : W.heap[b]? = some (.cells #[.slice none 0 0, .string (⟨#[]⟩ : ByteArray), .int .i64 0] 37 (0, 0))) : (execOp ev { dst := none, op := .store 37 (.tmp 8) (.tmp 55), type := 0, pos := ps, after := af, guard := none }).run Tryd.prog W = .ok .skip (((W.setCell ⟨b, 0, none⟩ (.slice A n c)).setCell ⟨b, 1, none⟩ (.string p)).setCell ⟨b, 2, none⟩ (.int .i64 x)) := by
 have hu := Tryd.underlying37
 obtain ⟨a0, a1, a2⟩ := cc3_ h; obtain ⟨f0, f1, f2⟩ := cf3_ h; clear h
 go_simp
theorem cell3_ {W : World} {b : Nat} {c0 c1 c2 v : Value} {a : Addr} (h : a.block ≠ b) (hc : W.cell? a = some v) : (((W.setCell ⟨b, 0, none⟩ c0).setCell ⟨b, 1, none⟩ c1).setCell ⟨b, 2, none⟩ c2).cell? a = some v :=
 (cell_far (p := ⟨b, 2, none⟩) h _).trans ((cell_far (p := ⟨b, 1, none⟩) h _).trans ((cell_far (p := ⟨b, 0, none⟩) h _).trans hc))
set_option maxHeartbeats 8000000 in
set_option maxRecDepth 100000 in
theorem spec_AskRead.calls (k : Nat) (a0 : ByteArray) (r1 : List (S23)) (r2 : ByteArray) (r3 : Int) (r4 : Bool) (w : World) (h : spec_AskRead.f k a0 = some (r1, r2, r3, r4)) :
  Calls Tryd.prog 17 #[.string a0] w fun e w' => ∃ v0_ : Value, e = .returned (.tuple #[.agg #[v0_, .string r2, .int .i64 r3], .bool r4]) ∧ Kd.R k23 23 w' w.heap.size (fun _ => True) v0_ r1 ∧ Below w.heap.size w w' := by
 have hu37 := Tryd.underlying37; have HB := yaa (Below.refl w.heap.size w); have H : ((spec_l7Cut.f k a0 47).bind fun b4 => (if (a0.size : Int) > 200 then (spec_AskRead.j0 k a0 b4 true) else (spec_AskRead.j0 k a0 b4 ((b4.length : Int) != 3)))) = some (r1, r2, r3, r4) := h; clear h; obtain ⟨b4, A2, H⟩ := bindA H; (try dsimp only at H); have HC3 := yaa H; clear H
 go_enter Tryd.func17, Tryd.ntmps17
 go_upto_region 2 with (first | ((with_reducible refine gd_ 2 rfl ?_); (try (refine gate_guard (by rfl) ?_; dsimp only)); refine bx_ 2 rfl #[.slice none 0 0, .string (⟨#[]⟩ : ByteArray), .int .i64 0] 37 ?_; intro a9 hg w4 hbox hb; have a3 := yaa (hbox); have f2 := yaa ((by rw [hg]; exact (yap (upH HB.out)) : w.heap.size ≤ a9)); replace HB := yaa (yal (upH HB.out) hb); have p6 := f2; clear hb hbox hg) | ((with_reducible refine gc_ 29 rfl ?_); refine gl_ (some 10) rfl Tryd.func29 #[.string a0, .int .u8 47] ?_; (with_reducible refine (spec_l7Cut.calls k a0 47 b4 _ A2.out).mono ?_); rintro e w5 ⟨o5, rfl, ho0, hb⟩; refine ⟨_, rfl, ?_⟩; have d5 := yaa (Kd.R_lower ho0 (yap (by repeat (with_reducible first | exact HB.out | apply yae | apply yab | apply yad | refine yaf ?_ (Aside0.out ‹_›))))); replace a3 := yaa (yak (upB a3.out) hb); replace HB := yaa (yal (by repeat (with_reducible first | exact HB.out | apply yae | apply yab | apply yad | refine yaf ?_ (Aside0.out ‹_›))) hb); (try clear hb ho0)))
 (try simp only [Act.put, List.setIfInBounds_toArray, List.set_cons_zero, List.set_cons_succ])
 go_cut [18] (fun v18 wc => ∃ (kq : Nat) (d9 : Bool), v18 = .bool d9 ∧ yan (spec_AskRead.j0 kq a0 b4 d9 = some (r1, r2, r3, r4)) ∧ yan (kq ≤ k) ∧ yan (Kd.R Kd.string 9 wc w.heap.size (fun _ => True) o5 b4) ∧ yan (wc.heap[a9]? = some (.cells #[(.slice none 0 0), .string (⟨#[]⟩ : ByteArray), .int .i64 0] 37 (0, 0))) ∧ yan (Below w.heap.size w wc))
 case first =>
  have H := HC3.out; clear HC3
  by_cases c6 : (a0.size : Int) > 200
  ·
   rw [if_pos c6] at H
   have d8 : decide (200 < (a0.size : Int)) = true := decide_eq_true c6; have e5 : decide (200 < a0.size) = true := decide_eq_true (by omega); clear c6
   (first | rw [d8] | (simp only [i64_w, i32_w]; rw [d8]) | skip)
   have H' := yaa H; clear H
   go_wp2
   go_meet
   case rel => exact ⟨_, (true), (by first | rfl | (simp; done) | (simp [*]; done)), H', ⟨by first | omega | exact Nat.le_refl _⟩, ⟨by first | exact d5.out | exact upR d5.out⟩, ⟨by exact upB a3.out⟩, ⟨by repeat (with_reducible first | exact HB.out | apply yae | apply yab | apply yad | refine yaf ?_ (Aside0.out ‹_›))⟩⟩
  ·
   rw [if_neg c6] at H
   have d8 : decide (200 < (a0.size : Int)) = false := decide_eq_false c6; have e5 : decide (200 < a0.size) = false := decide_eq_false (by omega); clear c6
   (first | rw [d8] | (simp only [i64_w, i32_w]; rw [d8]) | skip)
   have H' := yaa H; clear H; obtain ⟨Ao7, co7, eo7⟩ := Kd.R_slice d5.out; subst eo7
   go_wp2
   go_meet
   case rel => exact ⟨_, (((b4.length : Int) != 3)), (by first | rfl | (simp; done) | (simp [*]; done)), H', ⟨by first | omega | exact Nat.le_refl _⟩, ⟨by first | exact d5.out | exact upR d5.out⟩, ⟨by exact upB a3.out⟩, ⟨by repeat (with_reducible first | exact HB.out | apply yae | apply yab | apply yad | refine yaf ?_ (Aside0.out ‹_›))⟩⟩
 case rest =>
  clear HC3; (try clear c1); (try clear c2); (try clear p2); (try clear c6); (try clear d8); (try clear e5); obtain ⟨kq, d9, rfl, HA, HJ2, d6, a3, HB⟩ := hcut
  cases kq with
  | zero => exact absurd HA.out (by simp [spec_AskRead.j0])
  | succ kj2 =>
   have H := HA.out; clear HA
   simp only [spec_AskRead.j0] at H
   by_cases c8 : d9 = true
   ·
    subst c8
    rw [if_pos rfl] at H
    simp only [Option.some.injEq, Prod.mk.injEq] at H
    obtain ⟨rfl, rfl, rfl, rfl⟩ := H; obtain ⟨e6, e7, e8⟩ := cc3_ a3.out; obtain ⟨e9, f0, f1⟩ := cf3_ a3.out
    go_wp2
    refine bodyPost_ret (results_ct rfl _ _ a9 37 #[.slice none 0 0, .string (⟨#[]⟩ : ByteArray), .int .i64 0] (0, 0) _ rfl (by (repeat refine oneB ?_); refine blk_put (cs := #[.slice none 0 0, .string (⟨#[]⟩ : ByteArray), .int .i64 0]) ?_ 2 _ rfl; refine blk_put (cs := #[.slice none 0 0, .string (⟨#[]⟩ : ByteArray), .int .i64 0]) ?_ 1 _ rfl; refine blk_put (cs := #[.slice none 0 0, .string (⟨#[]⟩ : ByteArray), .int .i64 0]) ?_ 0 _ rfl; exact upB a3.out) Tryd.underlying37 rfl (by kernel_rfl)) rfl ?_
    exact ⟨_, by first | rfl | (simp [*, errW_none, errW_some] <;> rfl), by first | exact Kd.R_nil _ _ _ _ _ | exact Kd.N_nil _ _ _ _ _ | exact Kd.V_nil _ _ _ _ _ | exact Kd.Q_nil _ _ _ _ _ | exact Kd.S_nil _ _ _ _ _, by repeat (with_reducible first | exact HB.out | apply yae | apply yab | apply yad | refine yaf ?_ (Aside0.out ‹_›))⟩
   ·
    replace c8 := Bool.eq_false_iff.mpr c8
    subst c8
    rw [if_neg (show ¬ (false = true) by decide)] at H
    by_cases c10 : 1 < (b4.length : Int)
    ·
     rw [if_pos c10] at H
     have f3 : decide (1 < (b4.length : Int)) = true := decide_eq_true c10; have f4 : decide (1 < b4.length) = true := decide_eq_true (by omega); clear c10; obtain ⟨⟨b0, f5⟩, A11, H⟩ := bindA H; (try dsimp only at H)
     by_cases c12 : 2 < (b4.length : Int)
     ·
      rw [if_pos c12] at H
      have f6 : decide (2 < (b4.length : Int)) = true := decide_eq_true c12; have f7 : decide (2 < b4.length) = true := decide_eq_true (by omega); clear c12; obtain ⟨a5, A13, H⟩ := bindA H; (try dsimp only at H); have HC14 := yaa H; clear H; obtain ⟨s2, s3, o6⟩ := Kd.R_slice d6.out; subst o6; have p105 : 0 ≤ (1 : Int) := (by omega); have q105 : 1 < (b4.length : Int) := of_decide_eq_true (by assumption); obtain ⟨ad105, o7, d1⟩ := Kd.at_string (yam d6.out).2.2 1 p105 q105
      cases o7
      (try simp only [show (1 : Int).toNat = 1 from rfl, Nat.reduceMul, Nat.reduceEqDiff, Go.Addr.add, ↓reduceIte] at d1)
      have qi105 : (1 < b4.length) = True := eq_true (by omega)
      (try rw [show ((1 : Int)).toNat = 1 from rfl] at d1)
      replace p105 := eq_true p105; replace q105 := eq_true q105
      go_upto_region 6 with (first | ((with_reducible refine gc_ 48 rfl ?_); refine gl_ (some 24) rfl Tryd.func48 #[.string (rdOf ByteArray.empty b4 1)] ?_; (with_reducible refine (spec_l7Read.calls kj2 (rdOf ByteArray.empty b4 1) b0 f5 _ A11.out).mono ?_); rintro e w16 ⟨o8, rfl, ho0, hb⟩; refine ⟨_, rfl, ?_⟩; replace d6 := yaa (yah (upR d6.out) hb); have b9 := yaa (Kd.R_lower ho0 (yap (by repeat (with_reducible first | exact HB.out | apply yae | apply yab | apply yad | refine yaf ?_ (Aside0.out ‹_›))))); replace a3 := yaa (yak (upB a3.out) hb); replace HB := yaa (yal (by repeat (with_reducible first | exact HB.out | apply yae | apply yab | apply yad | refine yaf ?_ (Aside0.out ‹_›))) hb); (try clear hb ho0); have p110 : 0 ≤ (2 : Int) := (by omega); have q110 : 2 < (b4.length : Int) := of_decide_eq_true (by assumption); obtain ⟨ad110, o9, d2⟩ := Kd.at_string (yam d6.out).2.2 2 p110 q110; obtain rfl : ad105 = ad110 := (by injection o9); (try simp only [show (2 : Int).toNat = 2 from rfl, Nat.reduceMul, Nat.reduceEqDiff, Go.Addr.add, ↓reduceIte] at d2); have qi110 : (2 < b4.length) = True := eq_true (by omega); (try rw [show ((2 : Int)).toNat = 2 from rfl] at d2); replace p110 := eq_true p110; replace q110 := eq_true q110) | ((with_reducible refine gc_ 29 rfl ?_); refine gl_ (some 30) rfl Tryd.func29 #[.string (rdOf ByteArray.empty b4 2), .int .u8 63] ?_; (with_reducible refine (spec_l7Cut.calls kj2 (rdOf ByteArray.empty b4 2) 63 a5 _ A13.out).mono ?_); rintro e w17 ⟨p0, rfl, ho0, hb⟩; refine ⟨_, rfl, ?_⟩; replace b9 := yaa (yah (upR b9.out) hb); have c9 := yaa (Kd.R_lower (Kd.R_new' ho0 (Kd.R_lt (upR d6.out))) (yap (by repeat (with_reducible first | exact HB.out | apply yae | apply yab | apply yad | refine yaf ?_ (Aside0.out ‹_›))))); replace d6 := yaa (Kd.R_elder' (upR d6.out) (Kd.R_base ho0) hb); replace a3 := yaa (yak (upB a3.out) hb); replace HB := yaa (yal (by repeat (with_reducible first | exact HB.out | apply yae | apply yab | apply yad | refine yaf ?_ (Aside0.out ‹_›))) hb); (try clear hb ho0)))
      (try simp only [Act.put, List.setIfInBounds_toArray, List.set_cons_zero, List.set_cons_succ])
      go_cut [44] (fun v44 wc => ∃ (kq : Nat) (d3 : Bool), v44 = .bool d3 ∧ yan (spec_AskRead.j1 kq a0 b0 a5 d3 = some (r1, r2, r3, r4)) ∧ yan (kq ≤ kj2) ∧ yan (Kd.R k23 23 wc w.heap.size (fun _ => True) o8 b0) ∧ yan (Kd.R Kd.string 9 wc w.heap.size (fun _ => True) p0 a5) ∧ yan (wc.heap[a9]? = some (.cells #[(.slice none 0 0), .string (⟨#[]⟩ : ByteArray), .int .i64 0] 37 (0, 0))) ∧ yan (Below w.heap.size w wc))
      case first =>
       have H := HC14.out; clear HC14
       by_cases c18 : f5 = true
       ·
        subst c18
        rw [if_pos rfl] at H
        by_cases c19 : (a5.length : Int) = 2
        ·
         rw [if_pos c19] at H
         have d0 := beq_iff_eq.mpr c19; have e4 := bne_eq_false_iff_eq.mpr c19; clear c19
         (first | rw [d0] | (simp only [i64_w, i32_w]; rw [d0]) | skip)
         by_cases c20 : 1 < (a5.length : Int)
         ·
          rw [if_pos c20] at H
          have f8 : decide (1 < (a5.length : Int)) = true := decide_eq_true c20; have f9 : decide (1 < a5.length) = true := decide_eq_true (by omega); clear c20; have H' := yaa H; clear H; obtain ⟨s4, s5, p3⟩ := Kd.R_slice c9.out; subst p3; have p114 : 0 ≤ (1 : Int) := (by omega); have q114 : 1 < (a5.length : Int) := of_decide_eq_true (by assumption); obtain ⟨ad114, p4, d4⟩ := Kd.at_string (yam c9.out).2.2 1 p114 q114
          cases p4
          (try simp only [show (1 : Int).toNat = 1 from rfl, Nat.reduceMul, Nat.reduceEqDiff, Go.Addr.add, ↓reduceIte] at d4)
          have qi114 : (1 < a5.length) = True := eq_true (by omega)
          (try rw [show ((1 : Int)).toNat = 1 from rfl] at d4)
          replace p114 := eq_true p114; replace q114 := eq_true q114
          go_wp2
          go_meet
          case rel => exact ⟨_, (decide (((rdOf ByteArray.empty a5 1).size : Int) < 3)), (by first | rfl | (simp; done) | (simp [*]; done)), H', ⟨by have := HJ2.out; first | omega | exact Nat.le_refl _⟩, ⟨by first | exact b9.out | exact upR b9.out⟩, ⟨by (with_reducible repeat (first | apply Kd.R_alloc | apply Kd.R_drewN | apply yao)); exact Kd.R_mono c9.out (fun _ hk => trivial)⟩, ⟨by exact upB a3.out⟩, ⟨by repeat (with_reducible first | exact HB.out | apply yae | apply yab | apply yad | refine yaf ?_ (Aside0.out ‹_›))⟩⟩
         ·
          rw [if_neg c20] at H
          exact absurd H (by simp)
        ·
         rw [if_neg c19] at H
         have d0 := beq_eq_false_iff_ne.mpr c19; have e4 := bne_iff_ne.mpr c19
         (first | rw [d0] | (simp only [i64_w, i32_w]; rw [d0]) | skip)
         have H' := yaa H; clear H; obtain ⟨s6, s7, p5⟩ := Kd.R_slice c9.out; subst p5
         go_wp2
         go_meet
         case rel => exact ⟨_, (true), (by first | rfl | (simp; done) | (simp [*]; done)), H', ⟨by have := HJ2.out; first | omega | exact Nat.le_refl _⟩, ⟨by first | exact b9.out | exact upR b9.out⟩, ⟨by (with_reducible repeat (first | apply Kd.R_alloc | apply Kd.R_drewN | apply yao)); exact Kd.R_mono c9.out (fun _ hk => trivial)⟩, ⟨by exact upB a3.out⟩, ⟨by repeat (with_reducible first | exact HB.out | apply yae | apply yab | apply yad | refine yaf ?_ (Aside0.out ‹_›))⟩⟩
       ·
        replace c18 := Bool.eq_false_iff.mpr c18
        subst c18
        rw [if_neg (show ¬ (false = true) by decide)] at H
        have H' := yaa H; clear H
        go_wp2
        go_meet
        case rel => exact ⟨_, (true), (by first | rfl | (simp; done) | (simp [*]; done)), H', ⟨by have := HJ2.out; first | omega | exact Nat.le_refl _⟩, ⟨by first | exact b9.out | exact upR b9.out⟩, ⟨by (with_reducible repeat (first | apply Kd.R_alloc | apply Kd.R_drewN | apply yao)); exact Kd.R_mono c9.out (fun _ hk => trivial)⟩, ⟨by exact upB a3.out⟩, ⟨by repeat (with_reducible first | exact HB.out | apply yae | apply yab | apply yad | refine yaf ?_ (Aside0.out ‹_›))⟩⟩
      case rest =>
       clear HC14; (try clear c1); (try clear p1); (try clear q1); (try clear hx1); (try clear qi1); (try clear c2); (try clear p2); (try clear c4); (try clear c6); (try clear d8); (try clear e5); (try clear c8); (try clear c10); (try clear f3); (try clear f4); (try clear p10); (try clear q10); (try clear hx10); (try clear qi10); (try clear p11); (try clear q11); (try clear hx11); (try clear qi11); (try clear c12); (try clear f6); (try clear f7); (try clear c17); (try clear c18); (try clear c19); (try clear d0); (try clear e4); (try clear c20); (try clear f8); (try clear f9); (try clear e6); (try clear e7); (try clear e8); (try clear e9); (try clear f0); (try clear f1); (try clear d1); (try clear d2); (try clear d4); (try clear p105); (try clear p110); (try clear p114); (try clear p2); (try clear q105); (try clear q110); (try clear q114); obtain ⟨kq, d3, rfl, HA, HJ13, a8, a4, a3, HB⟩ := hcut
       cases kq with
       | zero => exact absurd HA.out (by simp [spec_AskRead.j1])
       | succ kj13 =>
        have H := HA.out; clear HA
        simp only [spec_AskRead.j1] at H
        by_cases c23 : d3 = true
        ·
         subst c23
         rw [if_pos rfl] at H
         simp only [Option.some.injEq, Prod.mk.injEq] at H
         obtain ⟨rfl, rfl, rfl, rfl⟩ := H; obtain ⟨h7, h8, h9⟩ := cc3_ a3.out; obtain ⟨i0, i1, i2⟩ := cf3_ a3.out
         go_wp2
         refine bodyPost_ret (results_ct rfl _ _ a9 37 #[.slice none 0 0, .string (⟨#[]⟩ : ByteArray), .int .i64 0] (0, 0) _ rfl (by (repeat refine oneB ?_); refine blk_put (cs := #[.slice none 0 0, .string (⟨#[]⟩ : ByteArray), .int .i64 0]) ?_ 2 _ rfl; refine blk_put (cs := #[.slice none 0 0, .string (⟨#[]⟩ : ByteArray), .int .i64 0]) ?_ 1 _ rfl; refine blk_put (cs := #[.slice none 0 0, .string (⟨#[]⟩ : ByteArray), .int .i64 0]) ?_ 0 _ rfl; exact upB a3.out) Tryd.underlying37 rfl (by kernel_rfl)) rfl ?_
         exact ⟨_, by first | rfl | (simp [*, errW_none, errW_some] <;> rfl), by first | exact Kd.R_nil _ _ _ _ _ | exact Kd.N_nil _ _ _ _ _ | exact Kd.V_nil _ _ _ _ _ | exact Kd.Q_nil _ _ _ _ _ | exact Kd.S_nil _ _ _ _ _, by repeat (with_reducible first | exact HB.out | apply yae | apply yab | apply yad | refine yaf ?_ (Aside0.out ‹_›))⟩
        ·
         replace c23 := Bool.eq_false_iff.mpr c23
         subst c23
         rw [if_neg (show ¬ (false = true) by decide)] at H
         by_cases c25 : 0 < (a5.length : Int)
         ·
          rw [if_pos c25] at H
          have p7 : decide (0 < (a5.length : Int)) = true := decide_eq_true c25; have p8 : decide (0 < a5.length) = true := decide_eq_true (by omega); clear c25
          by_cases c26 : 1 < (a5.length : Int)
          ·
           rw [if_pos c26] at H
           have p9 : decide (1 < (a5.length : Int)) = true := decide_eq_true c26; have q0 : decide (1 < a5.length) = true := decide_eq_true (by omega); clear c26
           by_cases c27 : 2 ≤ ((rdOf ByteArray.empty a5 1).size : Int)
           ·
            rw [if_pos c27] at H
            have q2 := eq_true c27; replace c27 := decide_eq_true c27; obtain ⟨b3, A28, H⟩ := bindA H; (try dsimp only at H); obtain ⟨e3, A29, H⟩ := bindA H; (try dsimp only at H)
            by_cases c30 : e3.toList = a0.toList
            ·
             rw [if_pos c30] at H
             have g0 := beq_iff_eq.mpr c30; have g1 := bne_eq_false_iff_eq.mpr c30; clear c30
             by_cases c31 : a0.toList = ([] : List UInt8)
             ·
              rw [if_pos c31] at H
              have g2 := beq_iff_eq.mpr c31; have g3 := bne_eq_false_iff_eq.mpr c31; clear c31
              simp only [Option.some.injEq, Prod.mk.injEq] at H
              obtain ⟨rfl, rfl, rfl, rfl⟩ := H
              try go_wp2
              replace a8 := yaa (yao a8.out); replace a4 := yaa (yao a4.out); replace a3 := yaa (blk_drew a3.out); replace HB := yaa (yad HB.out); obtain ⟨t0, g4, g5⟩ := Kd.R_slice a4.out
              (first | subst g5 | (injection g5 with f1_ f2_ f3_; have f4_ := f1_.symm; have f5_ := f3_.symm; clear f1_ f2_ f3_; subst f4_; subst f5_))
              have p115 : 0 ≤ (0 : Int) := (by omega); have q115 : 0 < (a5.length : Int) := of_decide_eq_true (by assumption); obtain ⟨ad115, e1, b1⟩ := Kd.at_string (yam a4.out).2.2 0 p115 q115
              cases e1
              have qi115 : (0 < a5.length) = True := eq_true (by omega)
              (try rw [show ((0 : Int)).toNat = 0 from rfl] at b1)
              (try rw [Addr.add_zero'] at b1)
              replace p115 := eq_true p115; replace q115 := eq_true q115; have p116 : 0 ≤ (1 : Int) := (by omega); have q116 : 1 < (a5.length : Int) := of_decide_eq_true (by assumption); obtain ⟨ad116, e2, b2⟩ := Kd.at_string (yam a4.out).2.2 1 p116 q116; obtain rfl : ad115 = ad116 := (by injection e2)
              (try simp only [show (1 : Int).toNat = 1 from rfl, Nat.reduceMul, Nat.reduceEqDiff, Go.Addr.add, ↓reduceIte] at b2)
              have qi116 : (1 < a5.length) = True := eq_true (by omega)
              (try rw [show ((1 : Int)).toNat = 1 from rfl] at b2)
              replace p116 := eq_true p116; replace q116 := eq_true q116
              obtain ⟨c5, c0, g6⟩ := Kd.R_slice a8.out
              (first | subst g6 | (injection g6 with f1_ f2_ f3_; have f4_ := f1_.symm; have f5_ := f3_.symm; clear f1_ f2_ f3_; subst f4_; subst f5_))
              refine start_ (n := 12) (S := fun w' => w'.cell? ad115 = some (.string (rdOf ByteArray.empty a5 0)) ∧ w'.cell? ⟨ad115.block, ad115.off + 1, none⟩ = some (.string (rdOf ByteArray.empty a5 1))) (ds := []) q17_0 (by kernel_rfl) rfl rfl ⟨b1, b2⟩ (fun hHeld => ?_); refine with_tabW spec_AskRead.tab8 spec_AskRead.bits8 (fun HT_ HW_ => ?_)
              generalize wc.drew = w32 at a8 a4 a3 HB b1 b2 hHeld ⊢
              refine pz_ 0 46 q17_1 HT_ (by kernel_rfl) ?_
              refine pz_ 1 47 q17_2 HT_ (by kernel_rfl) ?_
              refine pz_ 2 48 q17_3 HT_ (by kernel_rfl) ?_
              refine pz_ 4 50 q17_4 HT_ (by kernel_rfl) ?_
              refine pz_ 5 51 q17_5 HT_ (by kernel_rfl) ?_
              refine tz_ 3 49 q17_6 HT_ HW_ (by kernel_rfl) hHeld ?_
              refine tz_ 6 52 q17_7 HT_ HW_ (by kernel_rfl) hHeld ?_
              refine pz_ 7 53 q17_8 HT_ (by kernel_rfl) ?_
              refine join_ (σ := Nat) 1 q17_9 (fun s_ => [(54, .int .i64 b3), (8, .pointer (some ⟨s_, 0, none⟩)), (55, .agg #[.slice c5 b0.length c0, .string (rdOf ByteArray.empty a5 0), .int .i64 b3])]) (fun s_ w' => (w'.cell? ad115 = some (.string (rdOf ByteArray.empty a5 0)) ∧ w'.cell? ⟨ad115.block, ad115.off + 1, none⟩ = some (.string (rdOf ByteArray.empty a5 1))) ∧ (Kd.R k23 23 w' w.heap.size (fun _ => True) (.slice c5 b0.length c0) b0) ∧ (Kd.R Kd.string 9 w' w.heap.size (fun _ => True) (.slice (some ad115) a5.length g4) a5) ∧ (w'.heap[a9]? = some (.cells #[.slice none 0 0, .string (⟨#[]⟩ : ByteArray), .int .i64 0] 37 (0, 0))) ∧ (w'.heap[s_]? = some (.cells #[.slice none 0 0, .string (⟨#[]⟩ : ByteArray), .int .i64 0] 37 (0, 0))) ∧ (w.heap.size ≤ s_) ∧ (w.heap.size ≤ s_) ∧ (a9 ≠ s_) ∧ (s_ ≠ a9) ∧ (Below w.heap.size w w')) ?_ ?_
              rotate_left
              ·
               intro hCont
               refine two_ (i := 8) (j := 10) (Ni := some 54) (Nj := some 8) q17_10 q17_11 rfl rfl rfl rfl (two_of HT_.out (by kernel_rfl)) (by decide) (by decide) (fun K hK => ?_) (fun K hK => ?_)
               ·
                skip
                refine goes_ Tryd.func30 (by kernel_rfl) rfl #[.string ((rdOf ByteArray.empty a5 1).extract 2 (rdOf ByteArray.empty a5 1).size)] (by rfl) rfl rfl (by (try simp only [List.map_toArray, List.map_cons, List.map_nil]); first | done | rfl | (simp only [List.length_drop, List.length_take]; rfl)) ?_
                with_reducible refine (spec_l7Num.calls kj13 ((rdOf ByteArray.empty a5 1).extract 2 (rdOf ByteArray.empty a5 1).size) b3 _ A28.out).mono ?_
                rintro e w34 ⟨rfl, hb⟩; have HS0_ := (hb.cell (World.block_lt_of_cell? _ _ (hHeld.1))).trans (hHeld.1); have HS1_ := (hb.cell (World.block_lt_of_cell? _ _ (hHeld.2))).trans (hHeld.2); refine ⟨_, rfl, ?_⟩; have n0_ := yaa (yah (upR a8.out) hb); have n1_ := yaa (yah (upR a4.out) hb); have n2_ := yaa (yak (upB a3.out) hb)
                have n3_ := yaa (yal (by repeat (with_reducible first | exact HB.out | apply yae | apply yab | apply yad | refine yaf ?_ (Aside0.out ‹_›))) hb)
                clear a8; clear a4; clear a3; clear HB; have a8 := n0_; have a4 := n1_; have a3 := n2_; have HB := n3_; clear n0_ n1_ n2_ n3_; (try clear hb); (try clear hb2); (try clear hk); (try clear hi)
                refine hK.out _ _ ⟨HS0_, HS1_⟩ (fun hHeld => ?_)
                clear hK K
                refine norm_ (a' := ?_) ?_ ?_
                rotate_left
                ·
                 show Act.put _ (some 54) _ = _
                 simp only [Act.put, List.setIfInBounds_toArray, List.set_cons_zero, List.set_cons_succ, i64_w, i32_w]
                 rfl
                refine pz_ 9 55 q17_12 HT_ (by kernel_rfl) ?_
                refine one_ (i := 10) (N := some 8) q17_9 rfl rfl (one_of HT_.out (by kernel_rfl)) (by decide) (fun K hK => ?_)
                refine box_step ?hg (N := 8) ?hd (cs := #[.slice none 0 0, .string (⟨#[]⟩ : ByteArray), .int .i64 0]) (t := 37) ?hr ?_; (case hd => rfl); (case hg => rfl); (case hr => first | (go_simp; done) | (go_simp; rfl))
                intro a2 hg w36 hbox hb; have HS0_ := (hb.cell (World.block_lt_of_cell? _ _ (hHeld.1))).trans (hHeld.1); have HS1_ := (hb.cell (World.block_lt_of_cell? _ _ (hHeld.2))).trans (hHeld.2); have n0_ := yaa (yah (upR a8.out) hb); have n1_ := yaa (yah (upR a4.out) hb); have n2_ := yaa (yak (upB a3.out) hb)
                have n3_ := yaa (yal (by repeat (with_reducible first | exact HB.out | apply yae | apply yab | apply yad | refine yaf ?_ (Aside0.out ‹_›))) hb)
                have n4_ := yaa (hbox)
                have n5_ := yaa ((by rw [hg]; exact (yap (by repeat (with_reducible first | exact HB.out | apply yae | apply yab | apply yad | refine yaf ?_ (Aside0.out ‹_›)))) : w.heap.size ≤ a2))
                have n6_ := yaa ((by rw [hg]; exact (yap (by repeat (with_reducible first | exact HB.out | apply yae | apply yab | apply yad | refine yaf ?_ (Aside0.out ‹_›)))) : w.heap.size ≤ a2))
                have n7_ := yaa ((by rw [hg]; exact Nat.ne_of_lt (blk_lt (upB a3.out)) : a9 ≠ a2)); have n8_ := yaa ((by rw [hg]; exact Nat.ne_of_gt (blk_lt (upB a3.out)) : a2 ≠ a9)); clear a8; clear a4; clear a3; clear HB; have a8 := n0_; have a4 := n1_; have a3 := n2_; have HB := n3_; have a1 := n4_; have b5 := n5_; have b6 := n6_; have a6 := n7_; have a7 := n8_; clear n0_ n1_ n2_ n3_ n4_ n5_ n6_ n7_ n8_; clear hb hbox hg
                refine hK.out _ _ ⟨HS0_, HS1_⟩ (fun hHeld => ?_)
                clear hK K
                refine norm_ (a' := ?_) ?_ ?_
                rotate_left
                ·
                 show Act.put _ (some 8) _ = _
                 simp only [Act.put, List.setIfInBounds_toArray, List.set_cons_zero, List.set_cons_succ, i64_w, i32_w]
                 rfl
                exact norm_ (by simp only [putAll, Act.put, List.setIfInBounds_toArray, List.set_cons_zero, List.set_cons_succ]) (hCont (a2) _ ⟨hHeld, (upR a8.out), (upR a4.out), (upB a3.out), (upB a1.out), b5.out, b6.out, a6.out, a7.out, (by repeat (with_reducible first | exact HB.out | apply yae | apply yab | apply yad | refine yaf ?_ (Aside0.out ‹_›)))⟩)
               ·
                skip
                refine box_step ?hg (N := 8) ?hd (cs := #[.slice none 0 0, .string (⟨#[]⟩ : ByteArray), .int .i64 0]) (t := 37) ?hr ?_; (case hd => rfl); (case hg => rfl); (case hr => first | (go_simp; done) | (go_simp; rfl))
                intro a2 hg w34 hbox hb; have HS0_ := (hb.cell (World.block_lt_of_cell? _ _ (hHeld.1))).trans (hHeld.1); have HS1_ := (hb.cell (World.block_lt_of_cell? _ _ (hHeld.2))).trans (hHeld.2); have n0_ := yaa (yah (upR a8.out) hb); have n1_ := yaa (yah (upR a4.out) hb); have n2_ := yaa (yak (upB a3.out) hb)
                have n3_ := yaa (yal (by repeat (with_reducible first | exact HB.out | apply yae | apply yab | apply yad | refine yaf ?_ (Aside0.out ‹_›))) hb)
                have n4_ := yaa (hbox)
                have n5_ := yaa ((by rw [hg]; exact (yap (by repeat (with_reducible first | exact HB.out | apply yae | apply yab | apply yad | refine yaf ?_ (Aside0.out ‹_›)))) : w.heap.size ≤ a2))
                have n6_ := yaa ((by rw [hg]; exact (yap (by repeat (with_reducible first | exact HB.out | apply yae | apply yab | apply yad | refine yaf ?_ (Aside0.out ‹_›)))) : w.heap.size ≤ a2))
                have n7_ := yaa ((by rw [hg]; exact Nat.ne_of_lt (blk_lt (upB a3.out)) : a9 ≠ a2)); have n8_ := yaa ((by rw [hg]; exact Nat.ne_of_gt (blk_lt (upB a3.out)) : a2 ≠ a9)); clear a8; clear a4; clear a3; clear HB; have a8 := n0_; have a4 := n1_; have a3 := n2_; have HB := n3_; have a1 := n4_; have b5 := n5_; have b6 := n6_; have a6 := n7_; have a7 := n8_; clear n0_ n1_ n2_ n3_ n4_ n5_ n6_ n7_ n8_; clear hb hbox hg
                refine hK.out _ _ ⟨HS0_, HS1_⟩ (fun hHeld => ?_)
                clear hK K
                refine norm_ (a' := ?_) ?_ ?_
                rotate_left
                ·
                 show Act.put _ (some 8) _ = _
                 simp only [Act.put, List.setIfInBounds_toArray, List.set_cons_zero, List.set_cons_succ, i64_w, i32_w]
                 rfl
                refine one_ (i := 8) (N := some 54) q17_13 rfl rfl (one_of HT_.out (by kernel_rfl)) (by decide) (fun K hK => ?_)
                refine goes_ Tryd.func30 (by kernel_rfl) rfl #[.string ((rdOf ByteArray.empty a5 1).extract 2 (rdOf ByteArray.empty a5 1).size)] (by rfl) rfl rfl (by (try simp only [List.map_toArray, List.map_cons, List.map_nil]); first | done | rfl | (simp only [List.length_drop, List.length_take]; rfl)) ?_
                with_reducible refine (spec_l7Num.calls kj13 ((rdOf ByteArray.empty a5 1).extract 2 (rdOf ByteArray.empty a5 1).size) b3 _ A28.out).mono ?_
                rintro e w35 ⟨rfl, hb⟩; have HS0_ := (hb.cell (World.block_lt_of_cell? _ _ (hHeld.1))).trans (hHeld.1); have HS1_ := (hb.cell (World.block_lt_of_cell? _ _ (hHeld.2))).trans (hHeld.2); refine ⟨_, rfl, ?_⟩; have n0_ := yaa (yah (upR a8.out) hb); have n1_ := yaa (yah (upR a4.out) hb); have n2_ := yaa (yak (upB a3.out) hb); have n3_ := yaa (yak (upB a1.out) hb)
                have n4_ := yaa (yal (by repeat (with_reducible first | exact HB.out | apply yae | apply yab | apply yad | refine yaf ?_ (Aside0.out ‹_›))) hb)
                clear a8; clear a4; clear a3; clear a1; clear HB; have a8 := n0_; have a4 := n1_; have a3 := n2_; have a1 := n3_; have HB := n4_; clear n0_ n1_ n2_ n3_ n4_; (try clear hb); (try clear hb2); (try clear hk); (try clear hi); obtain ⟨t1, t2, g7⟩ := Kd.R_slice a8.out
                (first | subst g7 | (injection g7 with f1_ f2_ f3_; have f4_ := f1_.symm; have f5_ := f3_.symm; clear f1_ f2_ f3_; subst f4_; subst f5_))
                refine hK.out _ _ ⟨HS0_, HS1_⟩ (fun hHeld => ?_)
                clear hK K
                refine norm_ (a' := ?_) ?_ ?_
                rotate_left
                ·
                 show Act.put _ (some 54) _ = _
                 simp only [Act.put, List.setIfInBounds_toArray, List.set_cons_zero, List.set_cons_succ, i64_w, i32_w]
                 rfl
                refine pz_ 9 55 q17_9 HT_ (by kernel_rfl) ?_
                exact norm_ (by simp only [putAll, Act.put, List.setIfInBounds_toArray, List.set_cons_zero, List.set_cons_succ]) (hCont (a2) _ ⟨hHeld, (upR a8.out), (upR a4.out), (upB a3.out), (upB a1.out), b5.out, b6.out, a6.out, a7.out, (by repeat (with_reducible first | exact HB.out | apply yae | apply yab | apply yad | refine yaf ?_ (Aside0.out ‹_›)))⟩)
              rintro a2 w37 ⟨hS_, h0_, h1_, h2_, h3_, h4_, h5_, h6_, h7_, h8_⟩; have n0_ : yan (Kd.R k23 23 w37 w.heap.size (fun _ => True) (.slice c5 b0.length c0) b0) := ⟨h0_⟩; have n1_ : yan (Kd.R Kd.string 9 w37 w.heap.size (fun _ => True) (.slice (some ad115) a5.length g4) a5) := ⟨h1_⟩; have n2_ : yan (w37.heap[a9]? = some (.cells #[.slice none 0 0, .string (⟨#[]⟩ : ByteArray), .int .i64 0] 37 (0, 0))) := ⟨h2_⟩; have n3_ : yan (w37.heap[a2]? = some (.cells #[.slice none 0 0, .string (⟨#[]⟩ : ByteArray), .int .i64 0] 37 (0, 0))) := ⟨h3_⟩; have n4_ : yan (w.heap.size ≤ a2) := ⟨h4_⟩; have n5_ : yan (w.heap.size ≤ a2) := ⟨h5_⟩; have n6_ : yan (a9 ≠ a2) := ⟨h6_⟩; have n7_ : yan (a2 ≠ a9) := ⟨h7_⟩; have n8_ : yan (Below w.heap.size w w37) := ⟨h8_⟩; clear a8; clear a4; clear a3; clear HB; clear h0_ h1_ h2_ h3_ h4_ h5_ h6_ h7_ h8_; have a8 := n0_; have a4 := n1_; have a3 := n2_; have a1 := n3_; have b5 := n4_; have b6 := n5_; have a6 := n6_; have a7 := n7_; have HB := n8_; clear n0_ n1_ n2_ n3_ n4_ n5_ n6_ n7_ n8_; have hHeld : w37.cell? ad115 = some (.string (rdOf ByteArray.empty a5 0)) ∧ w37.cell? ⟨ad115.block, ad115.off + 1, none⟩ = some (.string (rdOf ByteArray.empty a5 1)) := hS_
              refine norm_ (a' := ?_) ?_ ?_
              rotate_left
              ·
               simp only [putAll, Act.put, List.setIfInBounds_toArray, List.set_cons_zero, List.set_cons_succ]
               rfl
              refine one_ (i := 11) (N := none) q17_14 rfl rfl (one_of HT_.out (by kernel_rfl)) (by decide) (fun K hK => ?_)
              have t3 : w37.cell? ⟨a2, 0, none⟩ = some (.slice none 0 0) := (blk_cell a1.out 0).trans rfl; have q3 := blk_frozen a1.out 0; have i3 := a6.out; have i4 := a7.out; have t4 : w37.cell? ⟨a2, 1, none⟩ = some (.string (⟨#[]⟩ : ByteArray)) := (blk_cell a1.out 1).trans rfl; have q4 := blk_frozen a1.out 1; have i5 := a6.out; have i6 := a7.out; have t5 : w37.cell? ⟨a2, 2, none⟩ = some (.int .i64 0) := (blk_cell a1.out 2).trans rfl; have q5 := blk_frozen a1.out 2; have i7 := a6.out; have i8 := a7.out
              refine skip_ (by rfl) rfl (st3_ (b := a2) (A := c5) (n := b0.length) (c := c0) (p := (rdOf ByteArray.empty a5 0)) (x := b3) rfl rfl a1.out) ?_
              have hne_ := yac (yag a4.out a1.out (by decide))
              refine hK.out _ _ ⟨cell3_ hne_ hHeld.1, cell3_ hne_ hHeld.2⟩ (fun hHeld => ?_)
              clear hK K
              refine done_ (done_of HT_.out (by kernel_rfl)) ?_
              have q6 := a7.out; have q7 := a6.out; obtain ⟨i9, j2, j3⟩ := cc3_ a1.out; obtain ⟨j4, j5, j6⟩ := cf3_ a1.out
              try go_wp2_with (first | ((with_reducible refine gd_ 56 rfl ?_); refine Kd.event_run rfl (ld3_ (b := a2) (A := c5) (n := b0.length) (c := c0) (p := (rdOf ByteArray.empty a5 0)) (x := b3) rfl (by (repeat refine oneB ?_); refine blk_put (cs := #[.slice c5 b0.length c0, .string (rdOf ByteArray.empty a5 0), .int .i64 0]) ?_ 2 _ rfl; refine blk_put (cs := #[.slice c5 b0.length c0, .string (⟨#[]⟩ : ByteArray), .int .i64 0]) ?_ 1 _ rfl; refine blk_put (cs := #[.slice none 0 0, .string (⟨#[]⟩ : ByteArray), .int .i64 0]) ?_ 0 _ rfl; exact upB a1.out)) ?_) | ((with_reducible refine gc_ 25 rfl ?_); refine gl_ (some 57) rfl Tryd.func25 #[.agg #[.slice c5 b0.length c0, .string (rdOf ByteArray.empty a5 0), .int .i64 b3]] ?_; (with_reducible refine (spec_AskText.calls kj13 _ _ b0 (rdOf ByteArray.empty a5 0) b3 e3 _ ?side1 ?side2 A29.out).mono ?_); (case side1 => refine (yam (e := 23) (base := w.heap.size) (ok := fun k_ => True) (n := b0.length) (c := c0) ?_).2.2; exact (by (with_reducible repeat (first | apply Kd.R_alloc | apply Kd.R_drewN | apply yao)); exact (Kd.R_mono (yaj (p := ⟨a2, 2, none⟩) (yaj (p := ⟨a2, 1, none⟩) (yaj (p := ⟨a2, 0, none⟩) (Kd.R_types a8.out a1.out (by decide)) (fun _ hk => hk.2) (.slice c5 b0.length c0)) (fun _ hk => hk.2) (.string (rdOf ByteArray.empty a5 0))) (fun _ hk => hk.2) (.int .i64 b3)) (fun _ h_ => h_.1)))); (case side2 => exact (yam a8.out).2.1); rintro e w43 ⟨rfl, hb⟩; refine ⟨_, rfl, ?_⟩; replace a8 := yaa (yah (by (with_reducible repeat (first | apply Kd.R_alloc | apply Kd.R_drewN | apply yao)); exact (Kd.R_mono (yaj (p := ⟨a2, 2, none⟩) (yaj (p := ⟨a2, 1, none⟩) (yaj (p := ⟨a2, 0, none⟩) (Kd.R_types a8.out a1.out (by decide)) (fun _ hk => hk.2) (.slice c5 b0.length c0)) (fun _ hk => hk.2) (.string (rdOf ByteArray.empty a5 0))) (fun _ hk => hk.2) (.int .i64 b3)) (fun _ h_ => h_.1))) hb); replace a4 := yaa (yah (by (with_reducible repeat (first | apply Kd.R_alloc | apply Kd.R_drewN | apply yao)); exact (Kd.R_mono (yaj (p := ⟨a2, 2, none⟩) (yaj (p := ⟨a2, 1, none⟩) (yaj (p := ⟨a2, 0, none⟩) (Kd.R_types a4.out a1.out (by decide)) (fun _ hk => hk.2) (.slice c5 b0.length c0)) (fun _ hk => hk.2) (.string (rdOf ByteArray.empty a5 0))) (fun _ hk => hk.2) (.int .i64 b3)) (fun _ h_ => h_.1))) hb); replace a3 := yaa (yak (g := a9) (o := .cells #[.slice none 0 0, .string (⟨#[]⟩ : ByteArray), .int .i64 0] 37 (0, 0)) (by repeat (with_reducible first | exact a3.out | refine oneB ?_ | refine blk_far ?_ a6.out _)) hb); replace a1 := yaa (yak (g := a2) (o := .cells #[.slice c5 b0.length c0, .string (rdOf ByteArray.empty a5 0), .int .i64 b3] 37 (0, 0)) (by (repeat refine oneB ?_); refine blk_put (cs := #[.slice c5 b0.length c0, .string (rdOf ByteArray.empty a5 0), .int .i64 0]) ?_ 2 _ rfl; refine blk_put (cs := #[.slice c5 b0.length c0, .string (⟨#[]⟩ : ByteArray), .int .i64 0]) ?_ 1 _ rfl; refine blk_put (cs := #[.slice none 0 0, .string (⟨#[]⟩ : ByteArray), .int .i64 0]) ?_ 0 _ rfl; exact upB a1.out) hb); replace HB := yaa (yal (by repeat (with_reducible first | exact HB.out | apply yae | apply yab | apply yad | refine yaf ?_ (Aside0.out ‹_›))) hb); (try clear hb); obtain ⟨j7, j8, j9⟩ := cc3_ a3.out; obtain ⟨k0, k1⟩ := cf2_ a3.out; have k2 := blk_frozen a3.out 2))
              refine bodyPost_ret (results_ct rfl _ _ a9 37 #[.slice none 0 0, .string (⟨#[]⟩ : ByteArray), .int .i64 0] (0, 0) _ rfl (by (repeat refine oneB ?_); refine blk_put (cs := #[.slice none 0 0, .string (⟨#[]⟩ : ByteArray), .int .i64 0]) ?_ 2 _ rfl; refine blk_put (cs := #[.slice none 0 0, .string (⟨#[]⟩ : ByteArray), .int .i64 0]) ?_ 1 _ rfl; refine blk_put (cs := #[.slice none 0 0, .string (⟨#[]⟩ : ByteArray), .int .i64 0]) ?_ 0 _ rfl; exact upB a3.out) Tryd.underlying37 rfl (by kernel_rfl)) rfl ?_
              exact ⟨_, by first | rfl | (simp [*, errW_none, errW_some] <;> rfl), by first | exact Kd.R_nil _ _ _ _ _ | exact Kd.N_nil _ _ _ _ _ | exact Kd.V_nil _ _ _ _ _ | exact Kd.Q_nil _ _ _ _ _ | exact Kd.S_nil _ _ _ _ _, by repeat (with_reducible first | exact HB.out | apply yae | apply yab | apply yad | refine yaf ?_ (Aside0.out ‹_›))⟩
             ·
              rw [if_neg c31] at H
              have g2 := beq_eq_false_iff_ne.mpr c31; have g3 := bne_iff_ne.mpr c31
              simp only [Option.some.injEq, Prod.mk.injEq] at H
              obtain ⟨rfl, rfl, rfl, rfl⟩ := H
              try go_wp2
              replace a8 := yaa (yao a8.out); replace a4 := yaa (yao a4.out); replace a3 := yaa (blk_drew a3.out); replace HB := yaa (yad HB.out); obtain ⟨t6, g9, h0⟩ := Kd.R_slice a4.out
              (first | subst h0 | (injection h0 with f1_ f2_ f3_; have f4_ := f1_.symm; have f5_ := f3_.symm; clear f1_ f2_ f3_; subst f4_; subst f5_))
              have p115 : 0 ≤ (0 : Int) := (by omega); have q115 : 0 < (a5.length : Int) := of_decide_eq_true (by assumption); obtain ⟨ad115, e1, b1⟩ := Kd.at_string (yam a4.out).2.2 0 p115 q115
              cases e1
              have qi115 : (0 < a5.length) = True := eq_true (by omega)
              (try rw [show ((0 : Int)).toNat = 0 from rfl] at b1)
              (try rw [Addr.add_zero'] at b1)
              replace p115 := eq_true p115; replace q115 := eq_true q115; have p116 : 0 ≤ (1 : Int) := (by omega); have q116 : 1 < (a5.length : Int) := of_decide_eq_true (by assumption); obtain ⟨ad116, e2, b2⟩ := Kd.at_string (yam a4.out).2.2 1 p116 q116; obtain rfl : ad115 = ad116 := (by injection e2)
              (try simp only [show (1 : Int).toNat = 1 from rfl, Nat.reduceMul, Nat.reduceEqDiff, Go.Addr.add, ↓reduceIte] at b2)
              have qi116 : (1 < a5.length) = True := eq_true (by omega)
              (try rw [show ((1 : Int)).toNat = 1 from rfl] at b2)
              replace p116 := eq_true p116; replace q116 := eq_true q116
              obtain ⟨b8, b7, h1⟩ := Kd.R_slice a8.out
              (first | subst h1 | (injection h1 with f1_ f2_ f3_; have f4_ := f1_.symm; have f5_ := f3_.symm; clear f1_ f2_ f3_; subst f4_; subst f5_))
              refine start_ (n := 12) (S := fun w' => w'.cell? ad115 = some (.string (rdOf ByteArray.empty a5 0)) ∧ w'.cell? ⟨ad115.block, ad115.off + 1, none⟩ = some (.string (rdOf ByteArray.empty a5 1))) (ds := []) q17_0 (by kernel_rfl) rfl rfl ⟨b1, b2⟩ (fun hHeld => ?_); refine with_tabW spec_AskRead.tab8 spec_AskRead.bits8 (fun HT_ HW_ => ?_)
              generalize wc.drew = w45 at a8 a4 a3 HB b1 b2 hHeld ⊢
              refine pz_ 0 46 q17_1 HT_ (by kernel_rfl) ?_
              refine pz_ 1 47 q17_2 HT_ (by kernel_rfl) ?_
              refine pz_ 2 48 q17_3 HT_ (by kernel_rfl) ?_
              refine pz_ 4 50 q17_4 HT_ (by kernel_rfl) ?_
              refine pz_ 5 51 q17_5 HT_ (by kernel_rfl) ?_
              refine tz_ 3 49 q17_6 HT_ HW_ (by kernel_rfl) hHeld ?_
              refine tz_ 6 52 q17_7 HT_ HW_ (by kernel_rfl) hHeld ?_
              refine pz_ 7 53 q17_8 HT_ (by kernel_rfl) ?_
              refine join_ (σ := Nat) 1 q17_9 (fun s_ => [(54, .int .i64 b3), (8, .pointer (some ⟨s_, 0, none⟩)), (55, .agg #[.slice b8 b0.length b7, .string (rdOf ByteArray.empty a5 0), .int .i64 b3])]) (fun s_ w' => (w'.cell? ad115 = some (.string (rdOf ByteArray.empty a5 0)) ∧ w'.cell? ⟨ad115.block, ad115.off + 1, none⟩ = some (.string (rdOf ByteArray.empty a5 1))) ∧ (Kd.R k23 23 w' w.heap.size (fun _ => True) (.slice b8 b0.length b7) b0) ∧ (Kd.R Kd.string 9 w' w.heap.size (fun _ => True) (.slice (some ad115) a5.length g9) a5) ∧ (w'.heap[a9]? = some (.cells #[.slice none 0 0, .string (⟨#[]⟩ : ByteArray), .int .i64 0] 37 (0, 0))) ∧ (w'.heap[s_]? = some (.cells #[.slice none 0 0, .string (⟨#[]⟩ : ByteArray), .int .i64 0] 37 (0, 0))) ∧ (w.heap.size ≤ s_) ∧ (w.heap.size ≤ s_) ∧ (a9 ≠ s_) ∧ (s_ ≠ a9) ∧ (Below w.heap.size w w')) ?_ ?_
              rotate_left
              ·
               intro hCont
               refine two_ (i := 8) (j := 10) (Ni := some 54) (Nj := some 8) q17_10 q17_11 rfl rfl rfl rfl (two_of HT_.out (by kernel_rfl)) (by decide) (by decide) (fun K hK => ?_) (fun K hK => ?_)
               ·
                skip
                refine goes_ Tryd.func30 (by kernel_rfl) rfl #[.string ((rdOf ByteArray.empty a5 1).extract 2 (rdOf ByteArray.empty a5 1).size)] (by rfl) rfl rfl (by (try simp only [List.map_toArray, List.map_cons, List.map_nil]); first | done | rfl | (simp only [List.length_drop, List.length_take]; rfl)) ?_
                with_reducible refine (spec_l7Num.calls kj13 ((rdOf ByteArray.empty a5 1).extract 2 (rdOf ByteArray.empty a5 1).size) b3 _ A28.out).mono ?_
                rintro e w47 ⟨rfl, hb⟩; have HS0_ := (hb.cell (World.block_lt_of_cell? _ _ (hHeld.1))).trans (hHeld.1); have HS1_ := (hb.cell (World.block_lt_of_cell? _ _ (hHeld.2))).trans (hHeld.2); refine ⟨_, rfl, ?_⟩; have n0_ := yaa (yah (upR a8.out) hb); have n1_ := yaa (yah (upR a4.out) hb); have n2_ := yaa (yak (upB a3.out) hb)
                have n3_ := yaa (yal (by repeat (with_reducible first | exact HB.out | apply yae | apply yab | apply yad | refine yaf ?_ (Aside0.out ‹_›))) hb)
                clear a8; clear a4; clear a3; clear HB; have a8 := n0_; have a4 := n1_; have a3 := n2_; have HB := n3_; clear n0_ n1_ n2_ n3_; (try clear hb); (try clear hb2); (try clear hk); (try clear hi)
                refine hK.out _ _ ⟨HS0_, HS1_⟩ (fun hHeld => ?_)
                clear hK K
                refine norm_ (a' := ?_) ?_ ?_
                rotate_left
                ·
                 show Act.put _ (some 54) _ = _
                 simp only [Act.put, List.setIfInBounds_toArray, List.set_cons_zero, List.set_cons_succ, i64_w, i32_w]
                 rfl
                refine pz_ 9 55 q17_12 HT_ (by kernel_rfl) ?_
                refine one_ (i := 10) (N := some 8) q17_9 rfl rfl (one_of HT_.out (by kernel_rfl)) (by decide) (fun K hK => ?_)
                refine box_step ?hg (N := 8) ?hd (cs := #[.slice none 0 0, .string (⟨#[]⟩ : ByteArray), .int .i64 0]) (t := 37) ?hr ?_; (case hd => rfl); (case hg => rfl); (case hr => first | (go_simp; done) | (go_simp; rfl))
                intro a2 hg w49 hbox hb; have HS0_ := (hb.cell (World.block_lt_of_cell? _ _ (hHeld.1))).trans (hHeld.1); have HS1_ := (hb.cell (World.block_lt_of_cell? _ _ (hHeld.2))).trans (hHeld.2); have n0_ := yaa (yah (upR a8.out) hb); have n1_ := yaa (yah (upR a4.out) hb); have n2_ := yaa (yak (upB a3.out) hb)
                have n3_ := yaa (yal (by repeat (with_reducible first | exact HB.out | apply yae | apply yab | apply yad | refine yaf ?_ (Aside0.out ‹_›))) hb)
                have n4_ := yaa (hbox)
                have n5_ := yaa ((by rw [hg]; exact (yap (by repeat (with_reducible first | exact HB.out | apply yae | apply yab | apply yad | refine yaf ?_ (Aside0.out ‹_›)))) : w.heap.size ≤ a2))
                have n6_ := yaa ((by rw [hg]; exact (yap (by repeat (with_reducible first | exact HB.out | apply yae | apply yab | apply yad | refine yaf ?_ (Aside0.out ‹_›)))) : w.heap.size ≤ a2))
                have n7_ := yaa ((by rw [hg]; exact Nat.ne_of_lt (blk_lt (upB a3.out)) : a9 ≠ a2)); have n8_ := yaa ((by rw [hg]; exact Nat.ne_of_gt (blk_lt (upB a3.out)) : a2 ≠ a9)); clear a8; clear a4; clear a3; clear HB; have a8 := n0_; have a4 := n1_; have a3 := n2_; have HB := n3_; have a1 := n4_; have b5 := n5_; have b6 := n6_; have a6 := n7_; have a7 := n8_; clear n0_ n1_ n2_ n3_ n4_ n5_ n6_ n7_ n8_; clear hb hbox hg
                refine hK.out _ _ ⟨HS0_, HS1_⟩ (fun hHeld => ?_)
                clear hK K
                refine norm_ (a' := ?_) ?_ ?_
                rotate_left
                ·
                 show Act.put _ (some 8) _ = _
                 simp only [Act.put, List.setIfInBounds_toArray, List.set_cons_zero, List.set_cons_succ, i64_w, i32_w]
                 rfl
                exact norm_ (by simp only [putAll, Act.put, List.setIfInBounds_toArray, List.set_cons_zero, List.set_cons_succ]) (hCont (a2) _ ⟨hHeld, (upR a8.out), (upR a4.out), (upB a3.out), (upB a1.out), b5.out, b6.out, a6.out, a7.out, (by repeat (with_reducible first | exact HB.out | apply yae | apply yab | apply yad | refine yaf ?_ (Aside0.out ‹_›)))⟩)
               ·
                skip
                refine box_step ?hg (N := 8) ?hd (cs := #[.slice none 0 0, .string (⟨#[]⟩ : ByteArray), .int .i64 0]) (t := 37) ?hr ?_; (case hd => rfl); (case hg => rfl); (case hr => first | (go_simp; done) | (go_simp; rfl))
                intro a2 hg w47 hbox hb; have HS0_ := (hb.cell (World.block_lt_of_cell? _ _ (hHeld.1))).trans (hHeld.1); have HS1_ := (hb.cell (World.block_lt_of_cell? _ _ (hHeld.2))).trans (hHeld.2); have n0_ := yaa (yah (upR a8.out) hb); have n1_ := yaa (yah (upR a4.out) hb); have n2_ := yaa (yak (upB a3.out) hb)
                have n3_ := yaa (yal (by repeat (with_reducible first | exact HB.out | apply yae | apply yab | apply yad | refine yaf ?_ (Aside0.out ‹_›))) hb)
                have n4_ := yaa (hbox)
                have n5_ := yaa ((by rw [hg]; exact (yap (by repeat (with_reducible first | exact HB.out | apply yae | apply yab | apply yad | refine yaf ?_ (Aside0.out ‹_›)))) : w.heap.size ≤ a2))
                have n6_ := yaa ((by rw [hg]; exact (yap (by repeat (with_reducible first | exact HB.out | apply yae | apply yab | apply yad | refine yaf ?_ (Aside0.out ‹_›)))) : w.heap.size ≤ a2))
                have n7_ := yaa ((by rw [hg]; exact Nat.ne_of_lt (blk_lt (upB a3.out)) : a9 ≠ a2)); have n8_ := yaa ((by rw [hg]; exact Nat.ne_of_gt (blk_lt (upB a3.out)) : a2 ≠ a9)); clear a8; clear a4; clear a3; clear HB; have a8 := n0_; have a4 := n1_; have a3 := n2_; have HB := n3_; have a1 := n4_; have b5 := n5_; have b6 := n6_; have a6 := n7_; have a7 := n8_; clear n0_ n1_ n2_ n3_ n4_ n5_ n6_ n7_ n8_; clear hb hbox hg
                refine hK.out _ _ ⟨HS0_, HS1_⟩ (fun hHeld => ?_)
                clear hK K
                refine norm_ (a' := ?_) ?_ ?_
                rotate_left
                ·
                 show Act.put _ (some 8) _ = _
                 simp only [Act.put, List.setIfInBounds_toArray, List.set_cons_zero, List.set_cons_succ, i64_w, i32_w]
                 rfl
                refine one_ (i := 8) (N := some 54) q17_13 rfl rfl (one_of HT_.out (by kernel_rfl)) (by decide) (fun K hK => ?_)
                refine goes_ Tryd.func30 (by kernel_rfl) rfl #[.string ((rdOf ByteArray.empty a5 1).extract 2 (rdOf ByteArray.empty a5 1).size)] (by rfl) rfl rfl (by (try simp only [List.map_toArray, List.map_cons, List.map_nil]); first | done | rfl | (simp only [List.length_drop, List.length_take]; rfl)) ?_
                with_reducible refine (spec_l7Num.calls kj13 ((rdOf ByteArray.empty a5 1).extract 2 (rdOf ByteArray.empty a5 1).size) b3 _ A28.out).mono ?_
                rintro e w48 ⟨rfl, hb⟩; have HS0_ := (hb.cell (World.block_lt_of_cell? _ _ (hHeld.1))).trans (hHeld.1); have HS1_ := (hb.cell (World.block_lt_of_cell? _ _ (hHeld.2))).trans (hHeld.2); refine ⟨_, rfl, ?_⟩; have n0_ := yaa (yah (upR a8.out) hb); have n1_ := yaa (yah (upR a4.out) hb); have n2_ := yaa (yak (upB a3.out) hb); have n3_ := yaa (yak (upB a1.out) hb)
                have n4_ := yaa (yal (by repeat (with_reducible first | exact HB.out | apply yae | apply yab | apply yad | refine yaf ?_ (Aside0.out ‹_›))) hb)
                clear a8; clear a4; clear a3; clear a1; clear HB; have a8 := n0_; have a4 := n1_; have a3 := n2_; have a1 := n3_; have HB := n4_; clear n0_ n1_ n2_ n3_ n4_; (try clear hb); (try clear hb2); (try clear hk); (try clear hi); obtain ⟨t7, t8, h2⟩ := Kd.R_slice a8.out
                (first | subst h2 | (injection h2 with f1_ f2_ f3_; have f4_ := f1_.symm; have f5_ := f3_.symm; clear f1_ f2_ f3_; subst f4_; subst f5_))
                refine hK.out _ _ ⟨HS0_, HS1_⟩ (fun hHeld => ?_)
                clear hK K
                refine norm_ (a' := ?_) ?_ ?_
                rotate_left
                ·
                 show Act.put _ (some 54) _ = _
                 simp only [Act.put, List.setIfInBounds_toArray, List.set_cons_zero, List.set_cons_succ, i64_w, i32_w]
                 rfl
                refine pz_ 9 55 q17_9 HT_ (by kernel_rfl) ?_
                exact norm_ (by simp only [putAll, Act.put, List.setIfInBounds_toArray, List.set_cons_zero, List.set_cons_succ]) (hCont (a2) _ ⟨hHeld, (upR a8.out), (upR a4.out), (upB a3.out), (upB a1.out), b5.out, b6.out, a6.out, a7.out, (by repeat (with_reducible first | exact HB.out | apply yae | apply yab | apply yad | refine yaf ?_ (Aside0.out ‹_›)))⟩)
              rintro a2 w50 ⟨hS_, h0_, h1_, h2_, h3_, h4_, h5_, h6_, h7_, h8_⟩; have n0_ : yan (Kd.R k23 23 w50 w.heap.size (fun _ => True) (.slice b8 b0.length b7) b0) := ⟨h0_⟩; have n1_ : yan (Kd.R Kd.string 9 w50 w.heap.size (fun _ => True) (.slice (some ad115) a5.length g9) a5) := ⟨h1_⟩; have n2_ : yan (w50.heap[a9]? = some (.cells #[.slice none 0 0, .string (⟨#[]⟩ : ByteArray), .int .i64 0] 37 (0, 0))) := ⟨h2_⟩; have n3_ : yan (w50.heap[a2]? = some (.cells #[.slice none 0 0, .string (⟨#[]⟩ : ByteArray), .int .i64 0] 37 (0, 0))) := ⟨h3_⟩; have n4_ : yan (w.heap.size ≤ a2) := ⟨h4_⟩; have n5_ : yan (w.heap.size ≤ a2) := ⟨h5_⟩; have n6_ : yan (a9 ≠ a2) := ⟨h6_⟩; have n7_ : yan (a2 ≠ a9) := ⟨h7_⟩; have n8_ : yan (Below w.heap.size w w50) := ⟨h8_⟩; clear a8; clear a4; clear a3; clear HB; clear h0_ h1_ h2_ h3_ h4_ h5_ h6_ h7_ h8_; have a8 := n0_; have a4 := n1_; have a3 := n2_; have a1 := n3_; have b5 := n4_; have b6 := n5_; have a6 := n6_; have a7 := n7_; have HB := n8_; clear n0_ n1_ n2_ n3_ n4_ n5_ n6_ n7_ n8_; have hHeld : w50.cell? ad115 = some (.string (rdOf ByteArray.empty a5 0)) ∧ w50.cell? ⟨ad115.block, ad115.off + 1, none⟩ = some (.string (rdOf ByteArray.empty a5 1)) := hS_
              refine norm_ (a' := ?_) ?_ ?_
              rotate_left
              ·
               simp only [putAll, Act.put, List.setIfInBounds_toArray, List.set_cons_zero, List.set_cons_succ]
               rfl
              refine one_ (i := 11) (N := none) q17_14 rfl rfl (one_of HT_.out (by kernel_rfl)) (by decide) (fun K hK => ?_)
              have t9 : w50.cell? ⟨a2, 0, none⟩ = some (.slice none 0 0) := (blk_cell a1.out 0).trans rfl; have q8 := blk_frozen a1.out 0; have k3 := a6.out; have k4 := a7.out; have u0 : w50.cell? ⟨a2, 1, none⟩ = some (.string (⟨#[]⟩ : ByteArray)) := (blk_cell a1.out 1).trans rfl; have q9 := blk_frozen a1.out 1; have k5 := a6.out; have k6 := a7.out; have u1 : w50.cell? ⟨a2, 2, none⟩ = some (.int .i64 0) := (blk_cell a1.out 2).trans rfl; have r0 := blk_frozen a1.out 2; have k7 := a6.out; have k8 := a7.out
              refine skip_ (by rfl) rfl (st3_ (b := a2) (A := b8) (n := b0.length) (c := b7) (p := (rdOf ByteArray.empty a5 0)) (x := b3) rfl rfl a1.out) ?_
              have hne_ := yac (yag a4.out a1.out (by decide))
              refine hK.out _ _ ⟨cell3_ hne_ hHeld.1, cell3_ hne_ hHeld.2⟩ (fun hHeld => ?_)
              clear hK K
              refine done_ (done_of HT_.out (by kernel_rfl)) ?_
              have r5 := a7.out; have r6 := a6.out; obtain ⟨k9, l0, l1⟩ := cc3_ a1.out; obtain ⟨l2, l3, l4⟩ := cf3_ a1.out
              try go_wp2_with (first | ((with_reducible refine gd_ 56 rfl ?_); refine Kd.event_run rfl (ld3_ (b := a2) (A := b8) (n := b0.length) (c := b7) (p := (rdOf ByteArray.empty a5 0)) (x := b3) rfl (by (repeat refine oneB ?_); refine blk_put (cs := #[.slice b8 b0.length b7, .string (rdOf ByteArray.empty a5 0), .int .i64 0]) ?_ 2 _ rfl; refine blk_put (cs := #[.slice b8 b0.length b7, .string (⟨#[]⟩ : ByteArray), .int .i64 0]) ?_ 1 _ rfl; refine blk_put (cs := #[.slice none 0 0, .string (⟨#[]⟩ : ByteArray), .int .i64 0]) ?_ 0 _ rfl; exact upB a1.out)) ?_) | ((with_reducible refine gc_ 25 rfl ?_); refine gl_ (some 57) rfl Tryd.func25 #[.agg #[.slice b8 b0.length b7, .string (rdOf ByteArray.empty a5 0), .int .i64 b3]] ?_; (with_reducible refine (spec_AskText.calls kj13 _ _ b0 (rdOf ByteArray.empty a5 0) b3 e3 _ ?side1 ?side2 A29.out).mono ?_); (case side1 => refine (yam (e := 23) (base := w.heap.size) (ok := fun k_ => True) (n := b0.length) (c := b7) ?_).2.2; exact (by (with_reducible repeat (first | apply Kd.R_alloc | apply Kd.R_drewN | apply yao)); exact (Kd.R_mono (yaj (p := ⟨a2, 2, none⟩) (yaj (p := ⟨a2, 1, none⟩) (yaj (p := ⟨a2, 0, none⟩) (Kd.R_types a8.out a1.out (by decide)) (fun _ hk => hk.2) (.slice b8 b0.length b7)) (fun _ hk => hk.2) (.string (rdOf ByteArray.empty a5 0))) (fun _ hk => hk.2) (.int .i64 b3)) (fun _ h_ => h_.1)))); (case side2 => exact (yam a8.out).2.1); rintro e w56 ⟨rfl, hb⟩; refine ⟨_, rfl, ?_⟩; replace a8 := yaa (yah (by (with_reducible repeat (first | apply Kd.R_alloc | apply Kd.R_drewN | apply yao)); exact (Kd.R_mono (yaj (p := ⟨a2, 2, none⟩) (yaj (p := ⟨a2, 1, none⟩) (yaj (p := ⟨a2, 0, none⟩) (Kd.R_types a8.out a1.out (by decide)) (fun _ hk => hk.2) (.slice b8 b0.length b7)) (fun _ hk => hk.2) (.string (rdOf ByteArray.empty a5 0))) (fun _ hk => hk.2) (.int .i64 b3)) (fun _ h_ => h_.1))) hb); replace a4 := yaa (yah (by (with_reducible repeat (first | apply Kd.R_alloc | apply Kd.R_drewN | apply yao)); exact (Kd.R_mono (yaj (p := ⟨a2, 2, none⟩) (yaj (p := ⟨a2, 1, none⟩) (yaj (p := ⟨a2, 0, none⟩) (Kd.R_types a4.out a1.out (by decide)) (fun _ hk => hk.2) (.slice b8 b0.length b7)) (fun _ hk => hk.2) (.string (rdOf ByteArray.empty a5 0))) (fun _ hk => hk.2) (.int .i64 b3)) (fun _ h_ => h_.1))) hb); replace a3 := yaa (yak (g := a9) (o := .cells #[.slice none 0 0, .string (⟨#[]⟩ : ByteArray), .int .i64 0] 37 (0, 0)) (by repeat (with_reducible first | exact a3.out | refine oneB ?_ | refine blk_far ?_ a6.out _)) hb); replace a1 := yaa (yak (g := a2) (o := .cells #[.slice b8 b0.length b7, .string (rdOf ByteArray.empty a5 0), .int .i64 b3] 37 (0, 0)) (by (repeat refine oneB ?_); refine blk_put (cs := #[.slice b8 b0.length b7, .string (rdOf ByteArray.empty a5 0), .int .i64 0]) ?_ 2 _ rfl; refine blk_put (cs := #[.slice b8 b0.length b7, .string (⟨#[]⟩ : ByteArray), .int .i64 0]) ?_ 1 _ rfl; refine blk_put (cs := #[.slice none 0 0, .string (⟨#[]⟩ : ByteArray), .int .i64 0]) ?_ 0 _ rfl; exact upB a1.out) hb); replace HB := yaa (yal (by repeat (with_reducible first | exact HB.out | apply yae | apply yab | apply yad | refine yaf ?_ (Aside0.out ‹_›))) hb); (try clear hb); obtain ⟨l5, l6, l7⟩ := cc3_ a1.out; obtain ⟨l8, l9, m0⟩ := cf3_ a1.out; obtain ⟨m1, m2, m3⟩ := cc3_ a3.out; obtain ⟨m4, m5⟩ := cf2_ a3.out; have m6 := blk_frozen a3.out 2))
              refine bodyPost_ret (results_ct rfl _ _ a9 37 #[.slice b8 b0.length b7, .string (rdOf ByteArray.empty a5 0), .int .i64 b3] (0, 0) _ rfl (by (repeat refine oneB ?_); refine blk_put (cs := #[.slice b8 b0.length b7, .string (rdOf ByteArray.empty a5 0), .int .i64 0]) ?_ 2 _ rfl; refine blk_put (cs := #[.slice b8 b0.length b7, .string (⟨#[]⟩ : ByteArray), .int .i64 0]) ?_ 1 _ rfl; refine blk_put (cs := #[.slice none 0 0, .string (⟨#[]⟩ : ByteArray), .int .i64 0]) ?_ 0 _ rfl; exact upB a3.out) Tryd.underlying37 rfl (by kernel_rfl)) rfl ?_
              exact ⟨_, by first | rfl | (simp [*, errW_none, errW_some] <;> rfl), by (with_reducible repeat (first | apply Kd.R_alloc | apply Kd.R_drewN | apply yao)); exact Kd.R_mono (yaj (p := ⟨a9, 2, none⟩) (yaj (p := ⟨a9, 1, none⟩) (yaj (p := ⟨a9, 0, none⟩) (Kd.R_types a8.out a3.out (by decide)) (fun _ hk => hk.2) (.slice b8 b0.length b7)) (fun _ hk => hk.2) (.string (rdOf ByteArray.empty a5 0))) (fun _ hk => hk.2) (.int .i64 b3)) (fun _ hk => trivial), by repeat (with_reducible first | exact HB.out | apply yae | apply yab | apply yad | refine yaf ?_ (Aside0.out ‹_›))⟩
            ·
             rw [if_neg c30] at H
             have g0 := beq_eq_false_iff_ne.mpr c30; have g1 := bne_iff_ne.mpr c30
             simp only [Option.some.injEq, Prod.mk.injEq] at H
             obtain ⟨rfl, rfl, rfl, rfl⟩ := H
             try go_wp2
             replace a8 := yaa (yao a8.out); replace a4 := yaa (yao a4.out); replace a3 := yaa (blk_drew a3.out); replace HB := yaa (yad HB.out); obtain ⟨u2, h3, h4⟩ := Kd.R_slice a4.out
             (first | subst h4 | (injection h4 with f1_ f2_ f3_; have f4_ := f1_.symm; have f5_ := f3_.symm; clear f1_ f2_ f3_; subst f4_; subst f5_))
             have p115 : 0 ≤ (0 : Int) := (by omega); have q115 : 0 < (a5.length : Int) := of_decide_eq_true (by assumption); obtain ⟨ad115, e1, b1⟩ := Kd.at_string (yam a4.out).2.2 0 p115 q115
             cases e1
             have qi115 : (0 < a5.length) = True := eq_true (by omega)
             (try rw [show ((0 : Int)).toNat = 0 from rfl] at b1)
             (try rw [Addr.add_zero'] at b1)
             replace p115 := eq_true p115; replace q115 := eq_true q115; have p116 : 0 ≤ (1 : Int) := (by omega); have q116 : 1 < (a5.length : Int) := of_decide_eq_true (by assumption); obtain ⟨ad116, e2, b2⟩ := Kd.at_string (yam a4.out).2.2 1 p116 q116; obtain rfl : ad115 = ad116 := (by injection e2)
             (try simp only [show (1 : Int).toNat = 1 from rfl, Nat.reduceMul, Nat.reduceEqDiff, Go.Addr.add, ↓reduceIte] at b2)
             have qi116 : (1 < a5.length) = True := eq_true (by omega)
             (try rw [show ((1 : Int)).toNat = 1 from rfl] at b2)
             replace p116 := eq_true p116; replace q116 := eq_true q116
             obtain ⟨c7, c3, h5⟩ := Kd.R_slice a8.out
             (first | subst h5 | (injection h5 with f1_ f2_ f3_; have f4_ := f1_.symm; have f5_ := f3_.symm; clear f1_ f2_ f3_; subst f4_; subst f5_))
             refine start_ (n := 12) (S := fun w' => w'.cell? ad115 = some (.string (rdOf ByteArray.empty a5 0)) ∧ w'.cell? ⟨ad115.block, ad115.off + 1, none⟩ = some (.string (rdOf ByteArray.empty a5 1))) (ds := []) q17_0 (by kernel_rfl) rfl rfl ⟨b1, b2⟩ (fun hHeld => ?_); refine with_tabW spec_AskRead.tab8 spec_AskRead.bits8 (fun HT_ HW_ => ?_)
             generalize wc.drew = w59 at a8 a4 a3 HB b1 b2 hHeld ⊢
             refine pz_ 0 46 q17_1 HT_ (by kernel_rfl) ?_
             refine pz_ 1 47 q17_2 HT_ (by kernel_rfl) ?_
             refine pz_ 2 48 q17_3 HT_ (by kernel_rfl) ?_
             refine pz_ 4 50 q17_4 HT_ (by kernel_rfl) ?_
             refine pz_ 5 51 q17_5 HT_ (by kernel_rfl) ?_
             refine tz_ 3 49 q17_6 HT_ HW_ (by kernel_rfl) hHeld ?_
             refine tz_ 6 52 q17_7 HT_ HW_ (by kernel_rfl) hHeld ?_
             refine pz_ 7 53 q17_8 HT_ (by kernel_rfl) ?_
             refine join_ (σ := Nat) 1 q17_9 (fun s_ => [(54, .int .i64 b3), (8, .pointer (some ⟨s_, 0, none⟩)), (55, .agg #[.slice c7 b0.length c3, .string (rdOf ByteArray.empty a5 0), .int .i64 b3])]) (fun s_ w' => (w'.cell? ad115 = some (.string (rdOf ByteArray.empty a5 0)) ∧ w'.cell? ⟨ad115.block, ad115.off + 1, none⟩ = some (.string (rdOf ByteArray.empty a5 1))) ∧ (Kd.R k23 23 w' w.heap.size (fun _ => True) (.slice c7 b0.length c3) b0) ∧ (Kd.R Kd.string 9 w' w.heap.size (fun _ => True) (.slice (some ad115) a5.length h3) a5) ∧ (w'.heap[a9]? = some (.cells #[.slice none 0 0, .string (⟨#[]⟩ : ByteArray), .int .i64 0] 37 (0, 0))) ∧ (w'.heap[s_]? = some (.cells #[.slice none 0 0, .string (⟨#[]⟩ : ByteArray), .int .i64 0] 37 (0, 0))) ∧ (w.heap.size ≤ s_) ∧ (w.heap.size ≤ s_) ∧ (a9 ≠ s_) ∧ (s_ ≠ a9) ∧ (Below w.heap.size w w')) ?_ ?_
             rotate_left
             ·
              intro hCont
              refine two_ (i := 8) (j := 10) (Ni := some 54) (Nj := some 8) q17_10 q17_11 rfl rfl rfl rfl (two_of HT_.out (by kernel_rfl)) (by decide) (by decide) (fun K hK => ?_) (fun K hK => ?_)
              ·
               skip
               refine goes_ Tryd.func30 (by kernel_rfl) rfl #[.string ((rdOf ByteArray.empty a5 1).extract 2 (rdOf ByteArray.empty a5 1).size)] (by rfl) rfl rfl (by (try simp only [List.map_toArray, List.map_cons, List.map_nil]); first | done | rfl | (simp only [List.length_drop, List.length_take]; rfl)) ?_
               with_reducible refine (spec_l7Num.calls kj13 ((rdOf ByteArray.empty a5 1).extract 2 (rdOf ByteArray.empty a5 1).size) b3 _ A28.out).mono ?_
               rintro e w61 ⟨rfl, hb⟩; have HS0_ := (hb.cell (World.block_lt_of_cell? _ _ (hHeld.1))).trans (hHeld.1); have HS1_ := (hb.cell (World.block_lt_of_cell? _ _ (hHeld.2))).trans (hHeld.2); refine ⟨_, rfl, ?_⟩; have n0_ := yaa (yah (upR a8.out) hb); have n1_ := yaa (yah (upR a4.out) hb); have n2_ := yaa (yak (upB a3.out) hb)
               have n3_ := yaa (yal (by repeat (with_reducible first | exact HB.out | apply yae | apply yab | apply yad | refine yaf ?_ (Aside0.out ‹_›))) hb)
               clear a8; clear a4; clear a3; clear HB; have a8 := n0_; have a4 := n1_; have a3 := n2_; have HB := n3_; clear n0_ n1_ n2_ n3_; (try clear hb); (try clear hb2); (try clear hk); (try clear hi)
               refine hK.out _ _ ⟨HS0_, HS1_⟩ (fun hHeld => ?_)
               clear hK K
               refine norm_ (a' := ?_) ?_ ?_
               rotate_left
               ·
                show Act.put _ (some 54) _ = _
                simp only [Act.put, List.setIfInBounds_toArray, List.set_cons_zero, List.set_cons_succ, i64_w, i32_w]
                rfl
               refine pz_ 9 55 q17_12 HT_ (by kernel_rfl) ?_
               refine one_ (i := 10) (N := some 8) q17_9 rfl rfl (one_of HT_.out (by kernel_rfl)) (by decide) (fun K hK => ?_)
               refine box_step ?hg (N := 8) ?hd (cs := #[.slice none 0 0, .string (⟨#[]⟩ : ByteArray), .int .i64 0]) (t := 37) ?hr ?_; (case hd => rfl); (case hg => rfl); (case hr => first | (go_simp; done) | (go_simp; rfl))
               intro a2 hg w63 hbox hb; have HS0_ := (hb.cell (World.block_lt_of_cell? _ _ (hHeld.1))).trans (hHeld.1); have HS1_ := (hb.cell (World.block_lt_of_cell? _ _ (hHeld.2))).trans (hHeld.2); have n0_ := yaa (yah (upR a8.out) hb); have n1_ := yaa (yah (upR a4.out) hb); have n2_ := yaa (yak (upB a3.out) hb)
               have n3_ := yaa (yal (by repeat (with_reducible first | exact HB.out | apply yae | apply yab | apply yad | refine yaf ?_ (Aside0.out ‹_›))) hb)
               have n4_ := yaa (hbox)
               have n5_ := yaa ((by rw [hg]; exact (yap (by repeat (with_reducible first | exact HB.out | apply yae | apply yab | apply yad | refine yaf ?_ (Aside0.out ‹_›)))) : w.heap.size ≤ a2))
               have n6_ := yaa ((by rw [hg]; exact (yap (by repeat (with_reducible first | exact HB.out | apply yae | apply yab | apply yad | refine yaf ?_ (Aside0.out ‹_›)))) : w.heap.size ≤ a2))
               have n7_ := yaa ((by rw [hg]; exact Nat.ne_of_lt (blk_lt (upB a3.out)) : a9 ≠ a2)); have n8_ := yaa ((by rw [hg]; exact Nat.ne_of_gt (blk_lt (upB a3.out)) : a2 ≠ a9)); clear a8; clear a4; clear a3; clear HB; have a8 := n0_; have a4 := n1_; have a3 := n2_; have HB := n3_; have a1 := n4_; have b5 := n5_; have b6 := n6_; have a6 := n7_; have a7 := n8_; clear n0_ n1_ n2_ n3_ n4_ n5_ n6_ n7_ n8_; clear hb hbox hg
               refine hK.out _ _ ⟨HS0_, HS1_⟩ (fun hHeld => ?_)
               clear hK K
               refine norm_ (a' := ?_) ?_ ?_
               rotate_left
               ·
                show Act.put _ (some 8) _ = _
                simp only [Act.put, List.setIfInBounds_toArray, List.set_cons_zero, List.set_cons_succ, i64_w, i32_w]
                rfl
               exact norm_ (by simp only [putAll, Act.put, List.setIfInBounds_toArray, List.set_cons_zero, List.set_cons_succ]) (hCont (a2) _ ⟨hHeld, (upR a8.out), (upR a4.out), (upB a3.out), (upB a1.out), b5.out, b6.out, a6.out, a7.out, (by repeat (with_reducible first | exact HB.out | apply yae | apply yab | apply yad | refine yaf ?_ (Aside0.out ‹_›)))⟩)
              ·
               skip
               refine box_step ?hg (N := 8) ?hd (cs := #[.slice none 0 0, .string (⟨#[]⟩ : ByteArray), .int .i64 0]) (t := 37) ?hr ?_; (case hd => rfl); (case hg => rfl); (case hr => first | (go_simp; done) | (go_simp; rfl))
               intro a2 hg w61 hbox hb; have HS0_ := (hb.cell (World.block_lt_of_cell? _ _ (hHeld.1))).trans (hHeld.1); have HS1_ := (hb.cell (World.block_lt_of_cell? _ _ (hHeld.2))).trans (hHeld.2); have n0_ := yaa (yah (upR a8.out) hb); have n1_ := yaa (yah (upR a4.out) hb); have n2_ := yaa (yak (upB a3.out) hb)
               have n3_ := yaa (yal (by repeat (with_reducible first | exact HB.out | apply yae | apply yab | apply yad | refine yaf ?_ (Aside0.out ‹_›))) hb)
               have n4_ := yaa (hbox)
               have n5_ := yaa ((by rw [hg]; exact (yap (by repeat (with_reducible first | exact HB.out | apply yae | apply yab | apply yad | refine yaf ?_ (Aside0.out ‹_›)))) : w.heap.size ≤ a2))
               have n6_ := yaa ((by rw [hg]; exact (yap (by repeat (with_reducible first | exact HB.out | apply yae | apply yab | apply yad | refine yaf ?_ (Aside0.out ‹_›)))) : w.heap.size ≤ a2))
               have n7_ := yaa ((by rw [hg]; exact Nat.ne_of_lt (blk_lt (upB a3.out)) : a9 ≠ a2)); have n8_ := yaa ((by rw [hg]; exact Nat.ne_of_gt (blk_lt (upB a3.out)) : a2 ≠ a9)); clear a8; clear a4; clear a3; clear HB; have a8 := n0_; have a4 := n1_; have a3 := n2_; have HB := n3_; have a1 := n4_; have b5 := n5_; have b6 := n6_; have a6 := n7_; have a7 := n8_; clear n0_ n1_ n2_ n3_ n4_ n5_ n6_ n7_ n8_; clear hb hbox hg
               refine hK.out _ _ ⟨HS0_, HS1_⟩ (fun hHeld => ?_)
               clear hK K
               refine norm_ (a' := ?_) ?_ ?_
               rotate_left
               ·
                show Act.put _ (some 8) _ = _
                simp only [Act.put, List.setIfInBounds_toArray, List.set_cons_zero, List.set_cons_succ, i64_w, i32_w]
                rfl
               refine one_ (i := 8) (N := some 54) q17_13 rfl rfl (one_of HT_.out (by kernel_rfl)) (by decide) (fun K hK => ?_)
               refine goes_ Tryd.func30 (by kernel_rfl) rfl #[.string ((rdOf ByteArray.empty a5 1).extract 2 (rdOf ByteArray.empty a5 1).size)] (by rfl) rfl rfl (by (try simp only [List.map_toArray, List.map_cons, List.map_nil]); first | done | rfl | (simp only [List.length_drop, List.length_take]; rfl)) ?_
               with_reducible refine (spec_l7Num.calls kj13 ((rdOf ByteArray.empty a5 1).extract 2 (rdOf ByteArray.empty a5 1).size) b3 _ A28.out).mono ?_
               rintro e w62 ⟨rfl, hb⟩; have HS0_ := (hb.cell (World.block_lt_of_cell? _ _ (hHeld.1))).trans (hHeld.1); have HS1_ := (hb.cell (World.block_lt_of_cell? _ _ (hHeld.2))).trans (hHeld.2); refine ⟨_, rfl, ?_⟩; have n0_ := yaa (yah (upR a8.out) hb); have n1_ := yaa (yah (upR a4.out) hb); have n2_ := yaa (yak (upB a3.out) hb); have n3_ := yaa (yak (upB a1.out) hb)
               have n4_ := yaa (yal (by repeat (with_reducible first | exact HB.out | apply yae | apply yab | apply yad | refine yaf ?_ (Aside0.out ‹_›))) hb)
               clear a8; clear a4; clear a3; clear a1; clear HB; have a8 := n0_; have a4 := n1_; have a3 := n2_; have a1 := n3_; have HB := n4_; clear n0_ n1_ n2_ n3_ n4_; (try clear hb); (try clear hb2); (try clear hk); (try clear hi); obtain ⟨u3, u4, h6⟩ := Kd.R_slice a8.out
               (first | subst h6 | (injection h6 with f1_ f2_ f3_; have f4_ := f1_.symm; have f5_ := f3_.symm; clear f1_ f2_ f3_; subst f4_; subst f5_))
               refine hK.out _ _ ⟨HS0_, HS1_⟩ (fun hHeld => ?_)
               clear hK K
               refine norm_ (a' := ?_) ?_ ?_
               rotate_left
               ·
                show Act.put _ (some 54) _ = _
                simp only [Act.put, List.setIfInBounds_toArray, List.set_cons_zero, List.set_cons_succ, i64_w, i32_w]
                rfl
               refine pz_ 9 55 q17_9 HT_ (by kernel_rfl) ?_
               exact norm_ (by simp only [putAll, Act.put, List.setIfInBounds_toArray, List.set_cons_zero, List.set_cons_succ]) (hCont (a2) _ ⟨hHeld, (upR a8.out), (upR a4.out), (upB a3.out), (upB a1.out), b5.out, b6.out, a6.out, a7.out, (by repeat (with_reducible first | exact HB.out | apply yae | apply yab | apply yad | refine yaf ?_ (Aside0.out ‹_›)))⟩)
             rintro a2 w64 ⟨hS_, h0_, h1_, h2_, h3_, h4_, h5_, h6_, h7_, h8_⟩; have n0_ : yan (Kd.R k23 23 w64 w.heap.size (fun _ => True) (.slice c7 b0.length c3) b0) := ⟨h0_⟩; have n1_ : yan (Kd.R Kd.string 9 w64 w.heap.size (fun _ => True) (.slice (some ad115) a5.length h3) a5) := ⟨h1_⟩; have n2_ : yan (w64.heap[a9]? = some (.cells #[.slice none 0 0, .string (⟨#[]⟩ : ByteArray), .int .i64 0] 37 (0, 0))) := ⟨h2_⟩; have n3_ : yan (w64.heap[a2]? = some (.cells #[.slice none 0 0, .string (⟨#[]⟩ : ByteArray), .int .i64 0] 37 (0, 0))) := ⟨h3_⟩; have n4_ : yan (w.heap.size ≤ a2) := ⟨h4_⟩; have n5_ : yan (w.heap.size ≤ a2) := ⟨h5_⟩; have n6_ : yan (a9 ≠ a2) := ⟨h6_⟩; have n7_ : yan (a2 ≠ a9) := ⟨h7_⟩; have n8_ : yan (Below w.heap.size w w64) := ⟨h8_⟩; clear a8; clear a4; clear a3; clear HB; clear h0_ h1_ h2_ h3_ h4_ h5_ h6_ h7_ h8_; have a8 := n0_; have a4 := n1_; have a3 := n2_; have a1 := n3_; have b5 := n4_; have b6 := n5_; have a6 := n6_; have a7 := n7_; have HB := n8_; clear n0_ n1_ n2_ n3_ n4_ n5_ n6_ n7_ n8_; have hHeld : w64.cell? ad115 = some (.string (rdOf ByteArray.empty a5 0)) ∧ w64.cell? ⟨ad115.block, ad115.off + 1, none⟩ = some (.string (rdOf ByteArray.empty a5 1)) := hS_
             refine norm_ (a' := ?_) ?_ ?_
             rotate_left
             ·
              simp only [putAll, Act.put, List.setIfInBounds_toArray, List.set_cons_zero, List.set_cons_succ]
              rfl
             refine one_ (i := 11) (N := none) q17_14 rfl rfl (one_of HT_.out (by kernel_rfl)) (by decide) (fun K hK => ?_)
             have u5 : w64.cell? ⟨a2, 0, none⟩ = some (.slice none 0 0) := (blk_cell a1.out 0).trans rfl; have r7 := blk_frozen a1.out 0; have m7 := a6.out; have m8 := a7.out; have u6 : w64.cell? ⟨a2, 1, none⟩ = some (.string (⟨#[]⟩ : ByteArray)) := (blk_cell a1.out 1).trans rfl; have r8 := blk_frozen a1.out 1; have m9 := a6.out; have n0 := a7.out; have u7 : w64.cell? ⟨a2, 2, none⟩ = some (.int .i64 0) := (blk_cell a1.out 2).trans rfl; have r9 := blk_frozen a1.out 2; have n1 := a6.out; have n2 := a7.out
             refine skip_ (by rfl) rfl (st3_ (b := a2) (A := c7) (n := b0.length) (c := c3) (p := (rdOf ByteArray.empty a5 0)) (x := b3) rfl rfl a1.out) ?_
             have hne_ := yac (yag a4.out a1.out (by decide))
             refine hK.out _ _ ⟨cell3_ hne_ hHeld.1, cell3_ hne_ hHeld.2⟩ (fun hHeld => ?_)
             clear hK K
             refine done_ (done_of HT_.out (by kernel_rfl)) ?_
             have s0 := a7.out; have s1 := a6.out; obtain ⟨n3, n4, n5⟩ := cc3_ a1.out; obtain ⟨n6, n7, n8⟩ := cf3_ a1.out
             try go_wp2_with (first | ((with_reducible refine gd_ 56 rfl ?_); refine Kd.event_run rfl (ld3_ (b := a2) (A := c7) (n := b0.length) (c := c3) (p := (rdOf ByteArray.empty a5 0)) (x := b3) rfl (by (repeat refine oneB ?_); refine blk_put (cs := #[.slice c7 b0.length c3, .string (rdOf ByteArray.empty a5 0), .int .i64 0]) ?_ 2 _ rfl; refine blk_put (cs := #[.slice c7 b0.length c3, .string (⟨#[]⟩ : ByteArray), .int .i64 0]) ?_ 1 _ rfl; refine blk_put (cs := #[.slice none 0 0, .string (⟨#[]⟩ : ByteArray), .int .i64 0]) ?_ 0 _ rfl; exact upB a1.out)) ?_) | ((with_reducible refine gc_ 25 rfl ?_); refine gl_ (some 57) rfl Tryd.func25 #[.agg #[.slice c7 b0.length c3, .string (rdOf ByteArray.empty a5 0), .int .i64 b3]] ?_; (with_reducible refine (spec_AskText.calls kj13 _ _ b0 (rdOf ByteArray.empty a5 0) b3 e3 _ ?side1 ?side2 A29.out).mono ?_); (case side1 => refine (yam (e := 23) (base := w.heap.size) (ok := fun k_ => True) (n := b0.length) (c := c3) ?_).2.2; exact (by (with_reducible repeat (first | apply Kd.R_alloc | apply Kd.R_drewN | apply yao)); exact (Kd.R_mono (yaj (p := ⟨a2, 2, none⟩) (yaj (p := ⟨a2, 1, none⟩) (yaj (p := ⟨a2, 0, none⟩) (Kd.R_types a8.out a1.out (by decide)) (fun _ hk => hk.2) (.slice c7 b0.length c3)) (fun _ hk => hk.2) (.string (rdOf ByteArray.empty a5 0))) (fun _ hk => hk.2) (.int .i64 b3)) (fun _ h_ => h_.1)))); (case side2 => exact (yam a8.out).2.1); rintro e w70 ⟨rfl, hb⟩; refine ⟨_, rfl, ?_⟩; replace a8 := yaa (yah (by (with_reducible repeat (first | apply Kd.R_alloc | apply Kd.R_drewN | apply yao)); exact (Kd.R_mono (yaj (p := ⟨a2, 2, none⟩) (yaj (p := ⟨a2, 1, none⟩) (yaj (p := ⟨a2, 0, none⟩) (Kd.R_types a8.out a1.out (by decide)) (fun _ hk => hk.2) (.slice c7 b0.length c3)) (fun _ hk => hk.2) (.string (rdOf ByteArray.empty a5 0))) (fun _ hk => hk.2) (.int .i64 b3)) (fun _ h_ => h_.1))) hb); replace a4 := yaa (yah (by (with_reducible repeat (first | apply Kd.R_alloc | apply Kd.R_drewN | apply yao)); exact (Kd.R_mono (yaj (p := ⟨a2, 2, none⟩) (yaj (p := ⟨a2, 1, none⟩) (yaj (p := ⟨a2, 0, none⟩) (Kd.R_types a4.out a1.out (by decide)) (fun _ hk => hk.2) (.slice c7 b0.length c3)) (fun _ hk => hk.2) (.string (rdOf ByteArray.empty a5 0))) (fun _ hk => hk.2) (.int .i64 b3)) (fun _ h_ => h_.1))) hb); replace a3 := yaa (yak (g := a9) (o := .cells #[.slice none 0 0, .string (⟨#[]⟩ : ByteArray), .int .i64 0] 37 (0, 0)) (by repeat (with_reducible first | exact a3.out | refine oneB ?_ | refine blk_far ?_ a6.out _)) hb); replace a1 := yaa (yak (g := a2) (o := .cells #[.slice c7 b0.length c3, .string (rdOf ByteArray.empty a5 0), .int .i64 b3] 37 (0, 0)) (by (repeat refine oneB ?_); refine blk_put (cs := #[.slice c7 b0.length c3, .string (rdOf ByteArray.empty a5 0), .int .i64 0]) ?_ 2 _ rfl; refine blk_put (cs := #[.slice c7 b0.length c3, .string (⟨#[]⟩ : ByteArray), .int .i64 0]) ?_ 1 _ rfl; refine blk_put (cs := #[.slice none 0 0, .string (⟨#[]⟩ : ByteArray), .int .i64 0]) ?_ 0 _ rfl; exact upB a1.out) hb); replace HB := yaa (yal (by repeat (with_reducible first | exact HB.out | apply yae | apply yab | apply yad | refine yaf ?_ (Aside0.out ‹_›))) hb); (try clear hb); obtain ⟨n9, o0, o1⟩ := cc3_ a3.out; obtain ⟨o2, o3⟩ := cf2_ a3.out; have o4 := blk_frozen a3.out 2))
             refine bodyPost_ret (results_ct rfl _ _ a9 37 #[.slice none 0 0, .string (⟨#[]⟩ : ByteArray), .int .i64 0] (0, 0) _ rfl (by (repeat refine oneB ?_); refine blk_put (cs := #[.slice none 0 0, .string (⟨#[]⟩ : ByteArray), .int .i64 0]) ?_ 2 _ rfl; refine blk_put (cs := #[.slice none 0 0, .string (⟨#[]⟩ : ByteArray), .int .i64 0]) ?_ 1 _ rfl; refine blk_put (cs := #[.slice none 0 0, .string (⟨#[]⟩ : ByteArray), .int .i64 0]) ?_ 0 _ rfl; exact upB a3.out) Tryd.underlying37 rfl (by kernel_rfl)) rfl ?_
             exact ⟨_, by first | rfl | (simp [*, errW_none, errW_some] <;> rfl), by first | exact Kd.R_nil _ _ _ _ _ | exact Kd.N_nil _ _ _ _ _ | exact Kd.V_nil _ _ _ _ _ | exact Kd.Q_nil _ _ _ _ _ | exact Kd.S_nil _ _ _ _ _, by repeat (with_reducible first | exact HB.out | apply yae | apply yab | apply yad | refine yaf ?_ (Aside0.out ‹_›))⟩
           ·
            rw [if_neg c27] at H
            exact absurd H (by simp)
          ·
           rw [if_neg c26] at H
           exact absurd H (by simp)
         ·
          rw [if_neg c25] at H
          exact absurd H (by simp)
     ·
      rw [if_neg c12] at H
      exact absurd H (by simp)
    ·
     rw [if_neg c10] at H
     exact absurd H (by simp)
end
section
mutual
def impl_numberRead.j0 : Nat → ByteArray → Bool → Option (Int × Bool)
 | 0, _, _ => none
 | k + 1, x0, x22 => if x22 = true then (some (0, false)) else (impl_numberRead.l0 k x0 0 (x0.size : Int) 0)
def impl_numberRead.l0 : Nat → ByteArray → Int → Int → Int → Option (Int × Bool)
 | 0, _, _, _, _ => none
 | k + 1, x0, x4, x24, x25 => if x25 < x24 then (if 0 ≤ x25 then (if x25 < (x0.size : Int) then (if (bt x0 x25) < 48 then (some (0, false)) else (if (bt x0 x25) > 57 then (some (0, false)) else (impl_numberRead.l0 k x0 (wrap64 ((wrap64 (10 * x4)) + (((bt x0 x25) - 48) % 256))) x24 (wrap64 (x25 + 1))))) else (none)) else (none)) else (some (x4, true))
end
def impl_numberRead.f (k : Nat) (a0 : ByteArray) : Option (Int × Bool) := if a0.toList = ([] : List UInt8) then (impl_numberRead.j0 k a0 true) else (if (a0.size : Int) > 6 then (impl_numberRead.j0 k a0 true) else (if 0 < (a0.size : Int) then (if (bt a0 0) = 48 then (impl_numberRead.j0 k a0 (decide ((a0.size : Int) > 1))) else (impl_numberRead.j0 k a0 false)) else (none)))
set_option maxHeartbeats 8000000 in
set_option maxRecDepth 100000 in
theorem impl_numberRead.calls (k : Nat) (a0 : ByteArray) (r1 : Int) (r2 : Bool) (w : World) (h : impl_numberRead.f k a0 = some (r1, r2)) :
  Calls Tryd.prog 34 #[.string a0] w fun e w' => e = .returned (.tuple #[.int .i64 r1, .bool r2]) ∧ Drawn0 w w' := by
 have H : (if a0.toList = ([] : List UInt8) then (impl_numberRead.j0 k a0 true) else (if (a0.size : Int) > 6 then (impl_numberRead.j0 k a0 true) else (if 0 < (a0.size : Int) then (if (bt a0 0) = 48 then (impl_numberRead.j0 k a0 (decide ((a0.size : Int) > 1))) else (impl_numberRead.j0 k a0 false)) else (none)))) = some (r1, r2) := h; clear h; have HC2 := Aside0.mk H; clear H
 go_enter Tryd.func34, Tryd.ntmps34
 go_upto_region 1 with (fail)
 go_cut [22] (fun v22 wc => ∃ (kq : Nat) (a3 : Bool), v22 = .bool a3 ∧ Aside0 (impl_numberRead.j0 kq a0 a3 = some (r1, r2)) ∧ Aside0 (kq ≤ k) ∧ Drawn0 w wc)
 case first =>
  have H := HC2.out; clear HC2
  by_cases c3 : a0.toList = ([] : List UInt8)
  ·
   rw [if_pos c3] at H
   have a2 := beq_iff_eq.mpr c3; have a5 := bne_eq_false_iff_eq.mpr c3; clear c3
   (first | rw [a2] | (simp only [i64_w, i32_w]; rw [a2]) | skip)
   have H' := Aside0.mk H; clear H
   go_wp2
   go_meet
   case rel => exact ⟨_, (true), (by first | rfl | (simp; done) | (simp [*]; done)), H', ⟨by first | omega | exact Nat.le_refl _⟩, by repeat (first | exact Drawn0.refl _ | apply Drawn0.step)⟩
  ·
   rw [if_neg c3] at H
   have a2 := beq_eq_false_iff_ne.mpr c3; have a5 := bne_iff_ne.mpr c3
   (first | rw [a2] | (simp only [i64_w, i32_w]; rw [a2]) | skip)
   by_cases c4 : (a0.size : Int) > 6
   ·
    rw [if_pos c4] at H
    have a6 : decide (6 < (a0.size : Int)) = true := decide_eq_true c4; have a7 : decide (6 < a0.size) = true := decide_eq_true (by omega); clear c4; have H' := Aside0.mk H; clear H
    go_wp2
    go_meet
    case rel => exact ⟨_, (true), (by first | rfl | (simp; done) | (simp [*]; done)), H', ⟨by first | omega | exact Nat.le_refl _⟩, by repeat (first | exact Drawn0.refl _ | apply Drawn0.step)⟩
   ·
    rw [if_neg c4] at H
    have a6 : decide (6 < (a0.size : Int)) = false := decide_eq_false c4; have a7 : decide (6 < a0.size) = false := decide_eq_false (by omega); clear c4
    by_cases c5 : 0 < (a0.size : Int)
    ·
     rw [if_pos c5] at H
     have b0 : decide (0 < (a0.size : Int)) = true := decide_eq_true c5; have b1 : decide (0 < a0.size) = true := decide_eq_true (by omega); clear c5
     by_cases c7 : (bt a0 0) = 48
     ·
      rw [if_pos c7] at H
      have a8 := beq_iff_eq.mpr c7; have a9 := bne_eq_false_iff_eq.mpr c7; clear c7; have H' := Aside0.mk H; clear H; have p6 : 0 ≤ (0 : Int) := (by omega); have q6 : 0 < a0.size := (by have : (0 : Int) < (a0.size : Int) := of_decide_eq_true (by assumption); omega); have hx6 : ∀ h : 0 < a0.size, ((a0[0]'h).toNat : Int) = bt a0 0 := bt_at a0 0; clear p6; have qi6 : (0 < (a0.size : Int)) = True := eq_true (of_decide_eq_true (by assumption)); replace q6 := eq_true q6
      go_wp2
      go_meet
      case rel => exact ⟨_, (decide ((a0.size : Int) > 1)), (by first | rfl | (simp; done) | (simp [*]; done)), H', ⟨by first | omega | exact Nat.le_refl _⟩, by repeat (first | exact Drawn0.refl _ | apply Drawn0.step)⟩
     ·
      rw [if_neg c7] at H
      have a8 := beq_eq_false_iff_ne.mpr c7; have a9 := bne_iff_ne.mpr c7; have H' := Aside0.mk H; clear H; have p6 : 0 ≤ (0 : Int) := (by omega); have q6 : 0 < a0.size := (by have : (0 : Int) < (a0.size : Int) := of_decide_eq_true (by assumption); omega); have hx6 : ∀ h : 0 < a0.size, ((a0[0]'h).toNat : Int) = bt a0 0 := bt_at a0 0; clear p6; have qi6 : (0 < (a0.size : Int)) = True := eq_true (of_decide_eq_true (by assumption)); replace q6 := eq_true q6
      go_wp2
      go_meet
      case rel => exact ⟨_, (false), (by first | rfl | (simp; done) | (simp [*]; done)), H', ⟨by first | omega | exact Nat.le_refl _⟩, by repeat (first | exact Drawn0.refl _ | apply Drawn0.step)⟩
    ·
     rw [if_neg c5] at H
     exact absurd H (by simp)
 case rest =>
  clear HC2; (try clear p2); (try clear c3); (try clear a2); (try clear a5); (try clear c4); (try clear a6); (try clear a7); (try clear c5); (try clear b0); (try clear b1); (try clear p6); (try clear q6); (try clear hx6); (try clear qi6); (try clear c7); (try clear a8); (try clear a9); (try clear p6); (try clear q6); obtain ⟨kq, a3, rfl, HA, HJ1, ⟨mc1, rfl⟩⟩ := hcut
  cases kq with
  | zero => exact absurd HA.out (by simp [impl_numberRead.j0])
  | succ kj1 =>
   have H := HA.out; clear HA
   simp only [impl_numberRead.j0] at H
   by_cases c8 : a3 = true
   ·
    subst c8
    rw [if_pos rfl] at H
    simp only [Option.some.injEq, Prod.mk.injEq] at H
    obtain ⟨rfl, rfl⟩ := H
    go_wp2
    go_ret2
    exact ⟨by first | rfl | (simp; done) | (simp [*]; done), by repeat (first | exact Drawn0.refl _ | apply Drawn0.step)⟩
   ·
    replace c8 := Bool.eq_false_iff.mpr c8
    subst c8
    rw [if_neg (show ¬ (false = true) by decide)] at H
    have H' := Aside0.mk H; clear H
    go_wp2
    (try simp only [Act.put, List.setIfInBounds_toArray, List.set_cons_zero, List.set_cons_succ])
    go_loopg [4, 25] kj1 (fun kq v4 v25 w' => ∃ (a4 : Int) (a1 : Int), v4 = .int .i64 a4 ∧ v25 = .int .i64 a1 ∧ Aside0 (impl_numberRead.l0 kq a0 a4 (a0.size : Int) a1 = some (r1, r2)) ∧ Aside0 (kq ≤ kj1) ∧ Drawn0 w w')
    case atStart => exact ⟨(0), (0), (by first | rfl | (simp; done) | (simp [*]; done)), (by first | rfl | (simp; done) | (simp [*]; done)), H', ⟨Nat.le_refl _⟩, by repeat (first | exact Drawn0.refl _ | apply Drawn0.step)⟩
    case round =>
     clear H'; (try clear c1); (try clear p2); (try clear c3); (try clear a2); (try clear a5); (try clear c4); (try clear a6); (try clear a7); (try clear c5); (try clear b0); (try clear b1); (try clear p6); (try clear q6); (try clear hx6); (try clear qi6); (try clear c7); (try clear a8); (try clear a9); (try clear c8); (try clear p2); (try clear p6); (try clear q6); obtain ⟨a4, a1, rfl, rfl, HA, HK2, ⟨m2, rfl⟩⟩ := hrel
     cases gk with
     | zero => exact absurd HA.out (by simp [impl_numberRead.l0])
     | succ k2 =>
      have H := HA.out; clear HA
      simp only [impl_numberRead.l0] at H
      by_cases c9 : a1 < (a0.size : Int)
      ·
       rw [if_pos c9] at H
       have b5 : decide (a1 < (a0.size : Int)) = true := decide_eq_true c9; clear c9
       by_cases c10 : 0 ≤ a1
       ·
        rw [if_pos c10] at H
        replace c10 := decide_eq_true c10
        by_cases c11 : a1 < (a0.size : Int)
        ·
         rw [if_pos c11] at H
         replace c11 := decide_eq_true c11
         by_cases c13 : (bt a0 a1) < 48
         ·
          rw [if_pos c13] at H
          have b2 : decide ((bt a0 a1) < 48) = true := decide_eq_true c13; clear c13
          simp only [Option.some.injEq, Prod.mk.injEq] at H
          obtain ⟨rfl, rfl⟩ := H; have p12 : 0 ≤ (a1 : Int) := of_decide_eq_true (by assumption); have q12 : a1 < (a0.size : Int) := of_decide_eq_true (by assumption); have b3 := bt_at a0 a1; replace p12 := eq_true p12; replace q12 := eq_true q12
          go_wp2
          go_ret2
          exact ⟨by first | rfl | (simp; done) | (simp [*]; done), by repeat (first | exact Drawn0.refl _ | apply Drawn0.step)⟩
         ·
          rw [if_neg c13] at H
          have b2 : decide ((bt a0 a1) < 48) = false := decide_eq_false c13; clear c13
          by_cases c15 : (bt a0 a1) > 57
          ·
           rw [if_pos c15] at H
           have b4 : decide (57 < (bt a0 a1)) = true := decide_eq_true c15; clear c15
           simp only [Option.some.injEq, Prod.mk.injEq] at H
           obtain ⟨rfl, rfl⟩ := H; have p12 : 0 ≤ (a1 : Int) := of_decide_eq_true (by assumption); have q12 : a1 < (a0.size : Int) := of_decide_eq_true (by assumption); have b3 := bt_at a0 a1; replace p12 := eq_true p12; replace q12 := eq_true q12; have p14 : 0 ≤ (a1 : Int) := of_decide_eq_true (by assumption); have q14 : a1 < (a0.size : Int) := of_decide_eq_true (by assumption); have b6 := bt_at a0 a1; replace p14 := eq_true p14; replace q14 := eq_true q14
           go_wp2
           go_ret2
           exact ⟨by first | rfl | (simp; done) | (simp [*]; done), by repeat (first | exact Drawn0.refl _ | apply Drawn0.step)⟩
          ·
           rw [if_neg c15] at H
           have b4 : decide (57 < (bt a0 a1)) = false := decide_eq_false c15; clear c15; have H' := Aside0.mk H; clear H; have p12 : 0 ≤ (a1 : Int) := of_decide_eq_true (by assumption); have q12 : a1 < (a0.size : Int) := of_decide_eq_true (by assumption); have b3 := bt_at a0 a1; replace p12 := eq_true p12; replace q12 := eq_true q12; have p14 : 0 ≤ (a1 : Int) := of_decide_eq_true (by assumption); have q14 : a1 < (a0.size : Int) := of_decide_eq_true (by assumption); have b6 := bt_at a0 a1; replace p14 := eq_true p14; replace q14 := eq_true q14; have p16 : 0 ≤ (a1 : Int) := of_decide_eq_true (by assumption); have q16 : a1 < (a0.size : Int) := of_decide_eq_true (by assumption); have b7 := bt_at a0 a1; replace p16 := eq_true p16; replace q16 := eq_true q16
           go_wp2
           go_roundg k2
           case measure => have := HJ1.out; have := HK2.out; omega
           case rel => exact ⟨(wrap64 ((wrap64 (10 * a4)) + (((bt a0 a1) - 48) % 256))), (wrap64 (a1 + 1)), (by first | rfl | (simp; done) | (simp [*]; done)), (by first | rfl | (simp; done) | (simp [*]; done)), H', ⟨by have := HJ1.out; have := HK2.out; omega⟩, by repeat (first | exact Drawn0.refl _ | apply Drawn0.step)⟩
        ·
         rw [if_neg c11] at H
         exact absurd H (by simp)
       ·
        rw [if_neg c10] at H
        exact absurd H (by simp)
      ·
       rw [if_neg c9] at H
       have b5 : decide (a1 < (a0.size : Int)) = false := decide_eq_false c9; clear c9
       simp only [Option.some.injEq, Prod.mk.injEq] at H
       obtain ⟨rfl, rfl⟩ := H
       go_wp2
       go_ret2
       exact ⟨by first | rfl | (simp; done) | (simp [*]; done), by repeat (first | exact Drawn0.refl _ | apply Drawn0.step)⟩
end
section
def impl_within.f (a0 : Int) (a1 : Int) (a2 : Int) : Option (Bool) := if a0 ≥ a1 then (some (decide (a0 ≤ a2))) else (some false)
set_option maxHeartbeats 8000000 in
set_option maxRecDepth 100000 in
theorem impl_within.calls (a0 : Int) (a1 : Int) (a2 : Int) (r : Bool) (w : World) (h : impl_within.f a0 a1 a2 = some r) :
    Calls Tryd.prog 43 #[.int .i64 a0, .int .i64 a1, .int .i64 a2] w fun e w' => e = .returned (.bool r) ∧ Drawn0 w w' := by
  have H : (if a0 ≥ a1 then (some (decide (a0 ≤ a2))) else (some false)) = some r := h; clear h
  by_cases c4 : a0 ≥ a1
  · rw [if_pos c4] at H
    have c4b0 : decide (a1 ≤ a0) = true := decide_eq_true c4; clear c4; obtain rfl := Option.some.inj H
    go_enter Tryd.func43, Tryd.ntmps43
    go_wp2
    go_ret
    exact ⟨by first | rfl | (simp; done) | (simp [*]; done), by repeat (first | exact Drawn0.refl _ | apply Drawn0.step)⟩
  · rw [if_neg c4] at H
    have c4b0 : decide (a1 ≤ a0) = false := decide_eq_false c4; clear c4; obtain rfl := Option.some.inj H
    go_enter Tryd.func43, Tryd.ntmps43
    go_wp2
    go_ret
    exact ⟨by first | rfl | (simp; done) | (simp [*]; done), by repeat (first | exact Drawn0.refl _ | apply Drawn0.step)⟩
end
section
theorem eqA23 (d : Nat) (w : World) (x0 y0 : Int) (x1 y1 : Int) (x2 y2 : Int) (x3 y3 : Int) (x4 y4 : Int) :
    (Op.equalIn (d + 2) 23 (.agg #[.int .i64 x0, .int .i64 x1, .int .i64 x2, .int .i64 x3, .int .i64 x4]) (.agg #[.int .i64 y0, .int .i64 y1, .int .i64 y2, .int .i64 y3, .int .i64 y4])).run Tryd.prog w = .ok (x0 == y0 && (x1 == y1 && (x2 == y2 && (x3 == y3 && (x4 == y4))))) w := by
  refine eqA_of Tryd.underlying23 (by kernel_rfl) ?_
  refine eqf_cons (by rfl) (by go_simp; rfl) (by go_simp; rfl) (by go_simp) ?_
  refine eqf_cons (by rfl) (by go_simp; rfl) (by go_simp; rfl) (by go_simp) ?_
  refine eqf_cons (by rfl) (by go_simp; rfl) (by go_simp; rfl) (by go_simp) ?_
  refine eqf_cons (by rfl) (by go_simp; rfl) (by go_simp; rfl) (by go_simp) ?_
  exact eqf_last (by rfl) (by go_simp; rfl) (by go_simp; rfl) (by go_simp)
end
section
def impl_sizeOk.f (a0 : Int) : Option (Bool) := if a0 ≥ 1 then (some (decide (a0 ≤ 6))) else (some false)
set_option maxHeartbeats 8000000 in
set_option maxRecDepth 100000 in
theorem impl_sizeOk.calls (a0 : Int) (r : Bool) (w : World) (h : impl_sizeOk.f a0 = some r) :
    Calls Tryd.prog 44 #[.int .i64 a0] w fun e w' => e = .returned (.bool r) ∧ Drawn0 w w' := by
  have H : (if a0 ≥ 1 then (some (decide (a0 ≤ 6))) else (some false)) = some r := h; clear h
  by_cases c2 : a0 ≥ 1
  · rw [if_pos c2] at H
    have c2b0 : decide (1 ≤ a0) = true := decide_eq_true c2; clear c2; obtain rfl := Option.some.inj H
    go_enter Tryd.func44, Tryd.ntmps44
    go_wp2
    go_ret
    exact ⟨by first | rfl | (simp; done) | (simp [*]; done), by repeat (first | exact Drawn0.refl _ | apply Drawn0.step)⟩
  · rw [if_neg c2] at H
    have c2b0 : decide (1 ≤ a0) = false := decide_eq_false c2; clear c2; obtain rfl := Option.some.inj H
    go_enter Tryd.func44, Tryd.ntmps44
    go_wp2
    go_ret
    exact ⟨by first | rfl | (simp; done) | (simp [*]; done), by repeat (first | exact Drawn0.refl _ | apply Drawn0.step)⟩
end
section
def impl_partOk.f (a0 : Int) : Option (Bool) := if a0 ≥ 0 then (some (decide (a0 ≤ 255))) else (some false)
set_option maxHeartbeats 8000000 in
set_option maxRecDepth 100000 in
theorem impl_partOk.calls (a0 : Int) (r : Bool) (w : World) (h : impl_partOk.f a0 = some r) :
    Calls Tryd.prog 45 #[.int .i64 a0] w fun e w' => e = .returned (.bool r) ∧ Drawn0 w w' := by
  have H : (if a0 ≥ 0 then (some (decide (a0 ≤ 255))) else (some false)) = some r := h; clear h
  by_cases c2 : a0 ≥ 0
  · rw [if_pos c2] at H
    have c2b0 : decide (0 ≤ a0) = true := decide_eq_true c2; clear c2; obtain rfl := Option.some.inj H
    go_enter Tryd.func45, Tryd.ntmps45
    go_wp2
    go_ret
    exact ⟨by first | rfl | (simp; done) | (simp [*]; done), by repeat (first | exact Drawn0.refl _ | apply Drawn0.step)⟩
  · rw [if_neg c2] at H
    have c2b0 : decide (0 ≤ a0) = false := decide_eq_false c2; clear c2; obtain rfl := Option.some.inj H
    go_enter Tryd.func45, Tryd.ntmps45
    go_wp2
    go_ret
    exact ⟨by first | rfl | (simp; done) | (simp [*]; done), by repeat (first | exact Drawn0.refl _ | apply Drawn0.step)⟩
end
section
attribute [local go_sem high] eqA23
open Go.Proofs.YtfafjpfigphchaaDoorW.PrintWords renaming pw_below_drewN → yaa, below_alloc → yab, below_drew1 → yac, below_set → yae
open Go.Proofs.YtfafjpfigphchaaDoorW.PrintWords.Aside0 renaming mk → yad

def impl_OpOk.j0 : Nat → Int → Bool → Int → Int → Int → Int → Int → Option (Bool)
 | 0, _, _, _, _, _, _, _ => none
 | k + 1, x4, x25, x102000, x102001, x102002, x102003, x102004 => if x25 = true then (some (x102001 == 0 && (x102002 == 0 && (x102003 == 0 && (x102004 == 0))))) else (if x4 = 7 then ((impl_sizeOk.f x102001).bind fun t106 => (if t106 = true then ((impl_sizeOk.f x102002).bind fun t107 => (if t107 = true then (if x102003 = 0 then (some (x102004 == 0)) else (some false)) else (some false))) else (some false))) else (if x4 = 8 then ((impl_partOk.f x102001).bind fun t108 => (if t108 = true then ((impl_partOk.f x102002).bind fun t109 => (if t109 = true then ((impl_partOk.f x102003).bind fun t110 => (if t110 = true then (some (x102004 == 0)) else (some false))) else (some false))) else (some false))) else (some false)))
def impl_OpOk.f (k : Nat) (a0_0 : Int) (a0_1 : Int) (a0_2 : Int) (a0_3 : Int) (a0_4 : Int) : Option (Bool) := if a0_0 = 1 then ((impl_within.f a0_1 0 5).bind fun t102 => (if t102 = true then ((impl_within.f a0_2 0 5).bind fun t103 => (if t103 = true then ((impl_sizeOk.f a0_3).bind fun t104 => (if t104 = true then ((impl_sizeOk.f a0_4).bind fun t105 => (some t105)) else (some false))) else (some false))) else (some false))) else (if a0_0 = 2 then (impl_OpOk.j0 k a0_0 (a0_0 == 2) a0_0 a0_1 a0_2 a0_3 a0_4) else (if a0_0 = 3 then (impl_OpOk.j0 k a0_0 (a0_0 == 3) a0_0 a0_1 a0_2 a0_3 a0_4) else (if a0_0 = 4 then (impl_OpOk.j0 k a0_0 (a0_0 == 4) a0_0 a0_1 a0_2 a0_3 a0_4) else (if a0_0 = 5 then (impl_OpOk.j0 k a0_0 (a0_0 == 5) a0_0 a0_1 a0_2 a0_3 a0_4) else (impl_OpOk.j0 k a0_0 (a0_0 == 6) a0_0 a0_1 a0_2 a0_3 a0_4)))))
set_option maxHeartbeats 8000000 in
set_option maxRecDepth 100000 in
theorem impl_OpOk.calls (k : Nat) (a0_0 : Int) (a0_1 : Int) (a0_2 : Int) (a0_3 : Int) (a0_4 : Int) (r : Bool) (w : World) (h : impl_OpOk.f k a0_0 a0_1 a0_2 a0_3 a0_4 = some r) :
  Calls Tryd.prog 14 #[.agg #[.int .i64 a0_0, .int .i64 a0_1, .int .i64 a0_2, .int .i64 a0_3, .int .i64 a0_4]] w fun e w' => e = .returned (.bool r) ∧ Below w.heap.size w w' := by
 have hu23 := Tryd.underlying23; have HB := yad (Below.refl w.heap.size w); have H : (if a0_0 = 1 then ((impl_within.f a0_1 0 5).bind fun h6 => (if h6 = true then ((impl_within.f a0_2 0 5).bind fun h7 => (if h7 = true then ((impl_sizeOk.f a0_3).bind fun h8 => (if h8 = true then ((impl_sizeOk.f a0_4).bind fun h9 => (some h9)) else (some false))) else (some false))) else (some false))) else (if a0_0 = 2 then (impl_OpOk.j0 k a0_0 (a0_0 == 2) a0_0 a0_1 a0_2 a0_3 a0_4) else (if a0_0 = 3 then (impl_OpOk.j0 k a0_0 (a0_0 == 3) a0_0 a0_1 a0_2 a0_3 a0_4) else (if a0_0 = 4 then (impl_OpOk.j0 k a0_0 (a0_0 == 4) a0_0 a0_1 a0_2 a0_3 a0_4) else (if a0_0 = 5 then (impl_OpOk.j0 k a0_0 (a0_0 == 5) a0_0 a0_1 a0_2 a0_3 a0_4) else (impl_OpOk.j0 k a0_0 (a0_0 == 6) a0_0 a0_1 a0_2 a0_3 a0_4)))))) = some r := h; clear h
 by_cases c2 : a0_0 = 1
 ·
  rw [if_pos c2] at H
  have i0 := beq_iff_eq.mpr c2; have i1 := bne_eq_false_iff_eq.mpr c2; clear c2; obtain ⟨h6, A3, H⟩ := bindA H; (try dsimp only at H)
  by_cases c4 : h6 = true
  ·
   subst c4
   rw [if_pos rfl] at H
   obtain ⟨h7, A5, H⟩ := bindA H; (try dsimp only at H)
   by_cases c6 : h7 = true
   ·
    subst c6
    rw [if_pos rfl] at H
    obtain ⟨h8, A7, H⟩ := bindA H; (try dsimp only at H)
    by_cases c8 : h8 = true
    ·
     subst c8
     rw [if_pos rfl] at H
     obtain ⟨h9, A9, H⟩ := bindA H; (try dsimp only at H); obtain rfl := Option.some.inj H
     go_enter Tryd.func14, Tryd.ntmps14
     go_wp2_with (first | ((with_reducible refine gd_ 1 rfl ?_); refine bx_ 1 rfl #[.int .i64 a0_0, .int .i64 a0_1, .int .i64 a0_2, .int .i64 a0_3, .int .i64 a0_4] 23 ?_; intro a6 hg w10 hbox hb; have a5 := yad (hbox); have a7 := yad ((by rw [hg]; exact (below_size (upH HB.out)) : w.heap.size ≤ a6)); replace HB := yad (below_step (upH HB.out) hb); have b2 := a7; clear hb hbox hg; obtain ⟨b3, b4, b5, b6, b7⟩ := cc5_ a5.out; obtain ⟨b8, b9, c0, c3⟩ := cf4_ a5.out; have c7 := blk_frozen a5.out 4) | ((with_reducible refine gc_ 43 rfl ?_); refine gl_ (some 9) rfl Tryd.func43 #[.int .i64 a0_1, .int .i64 0, .int .i64 5] ?_; (with_reducible refine (impl_within.calls a0_1 0 5 true _ A3.out).mono ?_); rintro e w' ⟨rfl, ⟨nd, rfl⟩⟩; refine ⟨_, rfl, ?_⟩) | (go_at_call 43; (with_reducible refine (impl_within.calls a0_2 0 5 true _ A5.out).mono ?_); rintro e w' ⟨rfl, ⟨nd, rfl⟩⟩) | (go_at_call 44; (with_reducible refine (impl_sizeOk.calls a0_3 true _ A7.out).mono ?_); rintro e w' ⟨rfl, ⟨nd, rfl⟩⟩) | (go_at_call 44; (with_reducible refine (impl_sizeOk.calls a0_4 h9 _ A9.out).mono ?_); rintro e w' ⟨rfl, ⟨nd, rfl⟩⟩))
     go_ret
     exact ⟨by first | rfl | (simp [*, errW_none, errW_some] <;> rfl), by repeat (with_reducible first | exact HB.out | apply yab | apply yaa | apply yac | refine yae ?_ (Aside0.out ‹_›))⟩
    ·
     replace c8 := Bool.eq_false_iff.mpr c8
     subst c8
     rw [if_neg (show ¬ (false = true) by decide)] at H
     obtain rfl := Option.some.inj H
     go_enter Tryd.func14, Tryd.ntmps14
     go_wp2_with (first | ((with_reducible refine gd_ 1 rfl ?_); refine bx_ 1 rfl #[.int .i64 a0_0, .int .i64 a0_1, .int .i64 a0_2, .int .i64 a0_3, .int .i64 a0_4] 23 ?_; intro a6 hg w12 hbox hb; have a5 := yad (hbox); have a7 := yad ((by rw [hg]; exact (below_size (upH HB.out)) : w.heap.size ≤ a6)); replace HB := yad (below_step (upH HB.out) hb); have b2 := a7; clear hb hbox hg; obtain ⟨c9, d0, d1, d2, d3⟩ := cc5_ a5.out; obtain ⟨d4, d5, d6, d7⟩ := cf4_ a5.out; have d8 := blk_frozen a5.out 4) | ((with_reducible refine gc_ 43 rfl ?_); refine gl_ (some 9) rfl Tryd.func43 #[.int .i64 a0_1, .int .i64 0, .int .i64 5] ?_; (with_reducible refine (impl_within.calls a0_1 0 5 true _ A3.out).mono ?_); rintro e w' ⟨rfl, ⟨nd, rfl⟩⟩; refine ⟨_, rfl, ?_⟩) | (go_at_call 43; (with_reducible refine (impl_within.calls a0_2 0 5 true _ A5.out).mono ?_); rintro e w' ⟨rfl, ⟨nd, rfl⟩⟩) | (go_at_call 44; (with_reducible refine (impl_sizeOk.calls a0_3 false _ A7.out).mono ?_); rintro e w' ⟨rfl, ⟨nd, rfl⟩⟩))
     go_ret
     exact ⟨by first | rfl | (simp [*, errW_none, errW_some] <;> rfl), by repeat (with_reducible first | exact HB.out | apply yab | apply yaa | apply yac | refine yae ?_ (Aside0.out ‹_›))⟩
   ·
    replace c6 := Bool.eq_false_iff.mpr c6
    subst c6
    rw [if_neg (show ¬ (false = true) by decide)] at H
    obtain rfl := Option.some.inj H
    go_enter Tryd.func14, Tryd.ntmps14
    go_wp2_with (first | ((with_reducible refine gd_ 1 rfl ?_); refine bx_ 1 rfl #[.int .i64 a0_0, .int .i64 a0_1, .int .i64 a0_2, .int .i64 a0_3, .int .i64 a0_4] 23 ?_; intro a6 hg w14 hbox hb; have a5 := yad (hbox); have a7 := yad ((by rw [hg]; exact (below_size (upH HB.out)) : w.heap.size ≤ a6)); replace HB := yad (below_step (upH HB.out) hb); have b2 := a7; clear hb hbox hg; obtain ⟨d9, e0, e1, e2, e3⟩ := cc5_ a5.out; obtain ⟨e4, e5, e6, e7⟩ := cf4_ a5.out; have e8 := blk_frozen a5.out 4) | ((with_reducible refine gc_ 43 rfl ?_); refine gl_ (some 9) rfl Tryd.func43 #[.int .i64 a0_1, .int .i64 0, .int .i64 5] ?_; (with_reducible refine (impl_within.calls a0_1 0 5 true _ A3.out).mono ?_); rintro e w' ⟨rfl, ⟨nd, rfl⟩⟩; refine ⟨_, rfl, ?_⟩) | (go_at_call 43; (with_reducible refine (impl_within.calls a0_2 0 5 false _ A5.out).mono ?_); rintro e w' ⟨rfl, ⟨nd, rfl⟩⟩))
    go_ret
    exact ⟨by first | rfl | (simp [*, errW_none, errW_some] <;> rfl), by repeat (with_reducible first | exact HB.out | apply yab | apply yaa | apply yac | refine yae ?_ (Aside0.out ‹_›))⟩
  ·
   replace c4 := Bool.eq_false_iff.mpr c4
   subst c4
   rw [if_neg (show ¬ (false = true) by decide)] at H
   obtain rfl := Option.some.inj H
   go_enter Tryd.func14, Tryd.ntmps14
   go_wp2_with (first | ((with_reducible refine gd_ 1 rfl ?_); refine bx_ 1 rfl #[.int .i64 a0_0, .int .i64 a0_1, .int .i64 a0_2, .int .i64 a0_3, .int .i64 a0_4] 23 ?_; intro a6 hg w16 hbox hb; have a5 := yad (hbox); have a7 := yad ((by rw [hg]; exact (below_size (upH HB.out)) : w.heap.size ≤ a6)); replace HB := yad (below_step (upH HB.out) hb); have b2 := a7; clear hb hbox hg; obtain ⟨e9, f0, f1, f2, f3⟩ := cc5_ a5.out; obtain ⟨f4, f5, f6, f7⟩ := cf4_ a5.out; have f8 := blk_frozen a5.out 4) | ((with_reducible refine gc_ 43 rfl ?_); refine gl_ (some 9) rfl Tryd.func43 #[.int .i64 a0_1, .int .i64 0, .int .i64 5] ?_; (with_reducible refine (impl_within.calls a0_1 0 5 false _ A3.out).mono ?_); rintro e w' ⟨rfl, ⟨nd, rfl⟩⟩; refine ⟨_, rfl, ?_⟩))
   go_ret
   exact ⟨by first | rfl | (simp [*, errW_none, errW_some] <;> rfl), by repeat (with_reducible first | exact HB.out | apply yab | apply yaa | apply yac | refine yae ?_ (Aside0.out ‹_›))⟩
 ·
  rw [if_neg c2] at H
  have i0 := beq_eq_false_iff_ne.mpr c2; have i1 := bne_iff_ne.mpr c2; have HC18 := yad H; clear H
  go_enter Tryd.func14, Tryd.ntmps14
  go_upto_if 25 with (first | ((with_reducible refine gd_ 1 rfl ?_); refine bx_ 1 rfl #[.int .i64 a0_0, .int .i64 a0_1, .int .i64 a0_2, .int .i64 a0_3, .int .i64 a0_4] 23 ?_; intro a6 hg w19 hbox hb; have a5 := yad (hbox); have a7 := yad ((by rw [hg]; exact (below_size (upH HB.out)) : w.heap.size ≤ a6)); replace HB := yad (below_step (upH HB.out) hb); have b2 := a7; clear hb hbox hg; obtain ⟨f9, g0, g1, g2, g3⟩ := cc5_ a5.out; obtain ⟨g4, g5, g6, g7⟩ := cf4_ a5.out; have g8 := blk_frozen a5.out 4))
  (try simp only [Act.put, List.setIfInBounds_toArray, List.set_cons_zero, List.set_cons_succ])
  go_cut [25] (fun v25 wc => ∃ (kq : Nat) (b0 : Bool), v25 = .bool b0 ∧ Aside0 (impl_OpOk.j0 kq a0_0 b0 a0_0 a0_1 a0_2 a0_3 a0_4 = some r) ∧ Aside0 (kq ≤ k) ∧ Aside0 (wc.heap[a6]? = some (.cells #[.int .i64 a0_0, .int .i64 a0_1, .int .i64 a0_2, .int .i64 a0_3, .int .i64 a0_4] 23 (0, 0))) ∧ Aside0 (Below w.heap.size w wc))
  case first =>
   have H := HC18.out; clear HC18
   by_cases c21 : a0_0 = 2
   ·
    rw [if_pos c21] at H
    have a9 := beq_iff_eq.mpr c21; have g9 := bne_eq_false_iff_eq.mpr c21; clear c21
    (first | rw [a9] | (simp only [i64_w, i32_w]; rw [a9]) | skip)
    have H' := yad H; clear H
    go_wp2
    go_meet
    case rel => exact ⟨_, ((a0_0 == 2)), (by first | rfl | (simp; done) | (simp [*]; done)), H', ⟨by first | omega | exact Nat.le_refl _⟩, ⟨by exact upB a5.out⟩, ⟨by repeat (with_reducible first | exact HB.out | apply yab | apply yaa | apply yac | refine yae ?_ (Aside0.out ‹_›))⟩⟩
   ·
    rw [if_neg c21] at H
    have a9 := beq_eq_false_iff_ne.mpr c21; have g9 := bne_iff_ne.mpr c21
    (first | rw [a9] | (simp only [i64_w, i32_w]; rw [a9]) | skip)
    by_cases c22 : a0_0 = 3
    ·
     rw [if_pos c22] at H
     have h0 := beq_iff_eq.mpr c22; have h1 := bne_eq_false_iff_eq.mpr c22; clear c22; have H' := yad H; clear H
     go_wp2
     go_meet
     case rel => exact ⟨_, ((a0_0 == 3)), (by first | rfl | (simp; done) | (simp [*]; done)), H', ⟨by first | omega | exact Nat.le_refl _⟩, ⟨by exact upB a5.out⟩, ⟨by repeat (with_reducible first | exact HB.out | apply yab | apply yaa | apply yac | refine yae ?_ (Aside0.out ‹_›))⟩⟩
    ·
     rw [if_neg c22] at H
     have h0 := beq_eq_false_iff_ne.mpr c22; have h1 := bne_iff_ne.mpr c22
     by_cases c23 : a0_0 = 4
     ·
      rw [if_pos c23] at H
      have h2 := beq_iff_eq.mpr c23; have h3 := bne_eq_false_iff_eq.mpr c23; clear c23; have H' := yad H; clear H
      go_wp2
      go_meet
      case rel => exact ⟨_, ((a0_0 == 4)), (by first | rfl | (simp; done) | (simp [*]; done)), H', ⟨by first | omega | exact Nat.le_refl _⟩, ⟨by exact upB a5.out⟩, ⟨by repeat (with_reducible first | exact HB.out | apply yab | apply yaa | apply yac | refine yae ?_ (Aside0.out ‹_›))⟩⟩
     ·
      rw [if_neg c23] at H
      have h2 := beq_eq_false_iff_ne.mpr c23; have h3 := bne_iff_ne.mpr c23
      by_cases c24 : a0_0 = 5
      ·
       rw [if_pos c24] at H
       have h4 := beq_iff_eq.mpr c24; have h5 := bne_eq_false_iff_eq.mpr c24; clear c24; have H' := yad H; clear H
       go_wp2
       go_meet
       case rel => exact ⟨_, ((a0_0 == 5)), (by first | rfl | (simp; done) | (simp [*]; done)), H', ⟨by first | omega | exact Nat.le_refl _⟩, ⟨by exact upB a5.out⟩, ⟨by repeat (with_reducible first | exact HB.out | apply yab | apply yaa | apply yac | refine yae ?_ (Aside0.out ‹_›))⟩⟩
      ·
       rw [if_neg c24] at H
       have h4 := beq_eq_false_iff_ne.mpr c24; have h5 := bne_iff_ne.mpr c24; have H' := yad H; clear H
       go_wp2
       go_meet
       case rel => exact ⟨_, ((a0_0 == 6)), (by first | rfl | (simp; done) | (simp [*]; done)), H', ⟨by first | omega | exact Nat.le_refl _⟩, ⟨by exact upB a5.out⟩, ⟨by repeat (with_reducible first | exact HB.out | apply yab | apply yaa | apply yac | refine yae ?_ (Aside0.out ‹_›))⟩⟩
  case rest =>
   clear HC18; (try clear c1); (try clear c2); (try clear i0); (try clear i1); (try clear p2); (try clear c4); (try clear c6); (try clear c8); (try clear c14); (try clear c21); (try clear a9); (try clear g9); (try clear c22); (try clear h0); (try clear h1); (try clear c23); (try clear h2); (try clear h3); (try clear c24); (try clear h4); (try clear h5); (try clear b3); (try clear b4); (try clear b5); (try clear b6); (try clear b7); (try clear c9); (try clear d0); (try clear d1); (try clear d2); (try clear d3); (try clear d9); (try clear e0); (try clear e1); (try clear e2); (try clear e3); (try clear e9); (try clear f0); (try clear f1); (try clear f2); (try clear f3); (try clear f9); (try clear g0); (try clear g1); (try clear g2); (try clear g3); (try clear b8); (try clear b9); (try clear c0); (try clear c3); (try clear c7); (try clear d4); (try clear d5); (try clear d6); (try clear d7); (try clear d8); (try clear e4); (try clear e5); (try clear e6); (try clear e7); (try clear e8); (try clear f4); (try clear f5); (try clear f6); (try clear f7); (try clear f8); (try clear g4); (try clear g5); (try clear g6); (try clear g7); (try clear g8); obtain ⟨kq, b0, rfl, HA, HJ17, a5, HB⟩ := hcut
   cases kq with
   | zero => exact absurd HA.out (by simp [impl_OpOk.j0])
   | succ kj17 =>
    have H := HA.out; clear HA
    simp only [impl_OpOk.j0] at H
    by_cases c25 : b0 = true
    ·
     subst c25
     rw [if_pos rfl] at H
     obtain rfl := Option.some.inj H; obtain ⟨i8, i9, j1, j2, j3⟩ := cc5_ a5.out; obtain ⟨j4, j5, j6, j7, j8⟩ := cf5_ a5.out
     go_wp2
     go_ret
     exact ⟨by first | rfl | (simp [*, errW_none, errW_some] <;> rfl), by repeat (with_reducible first | exact HB.out | apply yab | apply yaa | apply yac | refine yae ?_ (Aside0.out ‹_›))⟩
    ·
     replace c25 := Bool.eq_false_iff.mpr c25
     subst c25
     rw [if_neg (show ¬ (false = true) by decide)] at H
     by_cases c27 : a0_0 = 7
     ·
      rw [if_pos c27] at H
      have i2 := beq_iff_eq.mpr c27; have i3 := bne_eq_false_iff_eq.mpr c27; clear c27; obtain ⟨s0, A28, H⟩ := bindA H; (try dsimp only at H)
      by_cases c29 : s0 = true
      ·
       subst c29
       rw [if_pos rfl] at H
       obtain ⟨s1, A30, H⟩ := bindA H; (try dsimp only at H)
       by_cases c31 : s1 = true
       ·
        subst c31
        rw [if_pos rfl] at H
        by_cases c32 : a0_3 = 0
        ·
         rw [if_pos c32] at H
         have i4 := beq_iff_eq.mpr c32; have i5 := bne_eq_false_iff_eq.mpr c32; clear c32; obtain rfl := Option.some.inj H; obtain ⟨j9, k0, k1, k2, k3⟩ := cc5_ a5.out; obtain ⟨k4, k5, k6, k7, k8⟩ := cf5_ a5.out
         go_wp2_with (first | ((with_reducible refine gc_ 44 rfl ?_); refine gl_ (some 40) rfl Tryd.func44 #[.int .i64 a0_1] ?_; (with_reducible refine (impl_sizeOk.calls a0_1 true _ A28.out).mono ?_); rintro e w' ⟨rfl, ⟨nd, rfl⟩⟩; refine ⟨_, rfl, ?_⟩) | (go_at_call 44; (with_reducible refine (impl_sizeOk.calls a0_2 true _ A30.out).mono ?_); rintro e w' ⟨rfl, ⟨nd, rfl⟩⟩))
         go_ret
         exact ⟨by first | rfl | (simp [*, errW_none, errW_some] <;> rfl), by repeat (with_reducible first | exact HB.out | apply yab | apply yaa | apply yac | refine yae ?_ (Aside0.out ‹_›))⟩
        ·
         rw [if_neg c32] at H
         have i4 := beq_eq_false_iff_ne.mpr c32; have i5 := bne_iff_ne.mpr c32; obtain rfl := Option.some.inj H; obtain ⟨k9, l0, l1, l2, l3⟩ := cc5_ a5.out; obtain ⟨l4, l5, l6, l7, l8⟩ := cf5_ a5.out
         go_wp2_with (first | ((with_reducible refine gc_ 44 rfl ?_); refine gl_ (some 40) rfl Tryd.func44 #[.int .i64 a0_1] ?_; (with_reducible refine (impl_sizeOk.calls a0_1 true _ A28.out).mono ?_); rintro e w' ⟨rfl, ⟨nd, rfl⟩⟩; refine ⟨_, rfl, ?_⟩) | (go_at_call 44; (with_reducible refine (impl_sizeOk.calls a0_2 true _ A30.out).mono ?_); rintro e w' ⟨rfl, ⟨nd, rfl⟩⟩))
         go_ret
         exact ⟨by first | rfl | (simp [*, errW_none, errW_some] <;> rfl), by repeat (with_reducible first | exact HB.out | apply yab | apply yaa | apply yac | refine yae ?_ (Aside0.out ‹_›))⟩
       ·
        replace c31 := Bool.eq_false_iff.mpr c31
        subst c31
        rw [if_neg (show ¬ (false = true) by decide)] at H
        obtain rfl := Option.some.inj H; obtain ⟨l9, m0, m1, m2, m3⟩ := cc5_ a5.out; obtain ⟨m4, m5, m6, m7, m8⟩ := cf5_ a5.out
        go_wp2_with (first | ((with_reducible refine gc_ 44 rfl ?_); refine gl_ (some 40) rfl Tryd.func44 #[.int .i64 a0_1] ?_; (with_reducible refine (impl_sizeOk.calls a0_1 true _ A28.out).mono ?_); rintro e w' ⟨rfl, ⟨nd, rfl⟩⟩; refine ⟨_, rfl, ?_⟩) | (go_at_call 44; (with_reducible refine (impl_sizeOk.calls a0_2 false _ A30.out).mono ?_); rintro e w' ⟨rfl, ⟨nd, rfl⟩⟩))
        go_ret
        exact ⟨by first | rfl | (simp [*, errW_none, errW_some] <;> rfl), by repeat (with_reducible first | exact HB.out | apply yab | apply yaa | apply yac | refine yae ?_ (Aside0.out ‹_›))⟩
      ·
       replace c29 := Bool.eq_false_iff.mpr c29
       subst c29
       rw [if_neg (show ¬ (false = true) by decide)] at H
       obtain rfl := Option.some.inj H; obtain ⟨m9, n0, n1, n2, n3⟩ := cc5_ a5.out; obtain ⟨n4, n5, n6, n7, n8⟩ := cf5_ a5.out
       go_wp2_with (first | ((with_reducible refine gc_ 44 rfl ?_); refine gl_ (some 40) rfl Tryd.func44 #[.int .i64 a0_1] ?_; (with_reducible refine (impl_sizeOk.calls a0_1 false _ A28.out).mono ?_); rintro e w' ⟨rfl, ⟨nd, rfl⟩⟩; refine ⟨_, rfl, ?_⟩))
       go_ret
       exact ⟨by first | rfl | (simp [*, errW_none, errW_some] <;> rfl), by repeat (with_reducible first | exact HB.out | apply yab | apply yaa | apply yac | refine yae ?_ (Aside0.out ‹_›))⟩
     ·
      rw [if_neg c27] at H
      have i2 := beq_eq_false_iff_ne.mpr c27; have i3 := bne_iff_ne.mpr c27
      by_cases c37 : a0_0 = 8
      ·
       rw [if_pos c37] at H
       have i6 := beq_iff_eq.mpr c37; have i7 := bne_eq_false_iff_eq.mpr c37; clear c37; obtain ⟨s2, A38, H⟩ := bindA H; (try dsimp only at H)
       by_cases c39 : s2 = true
       ·
        subst c39
        rw [if_pos rfl] at H
        obtain ⟨s3, A40, H⟩ := bindA H; (try dsimp only at H)
        by_cases c41 : s3 = true
        ·
         subst c41
         rw [if_pos rfl] at H
         obtain ⟨s4, A42, H⟩ := bindA H; (try dsimp only at H)
         by_cases c43 : s4 = true
         ·
          subst c43
          rw [if_pos rfl] at H
          obtain rfl := Option.some.inj H; obtain ⟨n9, o0, o1, o2, o3⟩ := cc5_ a5.out; obtain ⟨o4, o5, o6, o7, o8⟩ := cf5_ a5.out
          go_wp2_with (first | ((with_reducible refine gc_ 45 rfl ?_); refine gl_ (some 60) rfl Tryd.func45 #[.int .i64 a0_1] ?_; (with_reducible refine (impl_partOk.calls a0_1 true _ A38.out).mono ?_); rintro e w' ⟨rfl, ⟨nd, rfl⟩⟩; refine ⟨_, rfl, ?_⟩) | (go_at_call 45; (with_reducible refine (impl_partOk.calls a0_2 true _ A40.out).mono ?_); rintro e w' ⟨rfl, ⟨nd, rfl⟩⟩) | (go_at_call 45; (with_reducible refine (impl_partOk.calls a0_3 true _ A42.out).mono ?_); rintro e w' ⟨rfl, ⟨nd, rfl⟩⟩))
          go_ret
          exact ⟨by first | rfl | (simp [*, errW_none, errW_some] <;> rfl), by repeat (with_reducible first | exact HB.out | apply yab | apply yaa | apply yac | refine yae ?_ (Aside0.out ‹_›))⟩
         ·
          replace c43 := Bool.eq_false_iff.mpr c43
          subst c43
          rw [if_neg (show ¬ (false = true) by decide)] at H
          obtain rfl := Option.some.inj H; obtain ⟨o9, p0, p1, p3, p4⟩ := cc5_ a5.out; obtain ⟨p5, p6, p7, p8, p9⟩ := cf5_ a5.out
          go_wp2_with (first | ((with_reducible refine gc_ 45 rfl ?_); refine gl_ (some 60) rfl Tryd.func45 #[.int .i64 a0_1] ?_; (with_reducible refine (impl_partOk.calls a0_1 true _ A38.out).mono ?_); rintro e w' ⟨rfl, ⟨nd, rfl⟩⟩; refine ⟨_, rfl, ?_⟩) | (go_at_call 45; (with_reducible refine (impl_partOk.calls a0_2 true _ A40.out).mono ?_); rintro e w' ⟨rfl, ⟨nd, rfl⟩⟩) | (go_at_call 45; (with_reducible refine (impl_partOk.calls a0_3 false _ A42.out).mono ?_); rintro e w' ⟨rfl, ⟨nd, rfl⟩⟩))
          go_ret
          exact ⟨by first | rfl | (simp [*, errW_none, errW_some] <;> rfl), by repeat (with_reducible first | exact HB.out | apply yab | apply yaa | apply yac | refine yae ?_ (Aside0.out ‹_›))⟩
        ·
         replace c41 := Bool.eq_false_iff.mpr c41
         subst c41
         rw [if_neg (show ¬ (false = true) by decide)] at H
         obtain rfl := Option.some.inj H; obtain ⟨q0, q1, q2, q3, q4⟩ := cc5_ a5.out; obtain ⟨q5, q6, q7, q8, q9⟩ := cf5_ a5.out
         go_wp2_with (first | ((with_reducible refine gc_ 45 rfl ?_); refine gl_ (some 60) rfl Tryd.func45 #[.int .i64 a0_1] ?_; (with_reducible refine (impl_partOk.calls a0_1 true _ A38.out).mono ?_); rintro e w' ⟨rfl, ⟨nd, rfl⟩⟩; refine ⟨_, rfl, ?_⟩) | (go_at_call 45; (with_reducible refine (impl_partOk.calls a0_2 false _ A40.out).mono ?_); rintro e w' ⟨rfl, ⟨nd, rfl⟩⟩))
         go_ret
         exact ⟨by first | rfl | (simp [*, errW_none, errW_some] <;> rfl), by repeat (with_reducible first | exact HB.out | apply yab | apply yaa | apply yac | refine yae ?_ (Aside0.out ‹_›))⟩
       ·
        replace c39 := Bool.eq_false_iff.mpr c39
        subst c39
        rw [if_neg (show ¬ (false = true) by decide)] at H
        obtain rfl := Option.some.inj H; obtain ⟨r0, r1, r2, r3, r4⟩ := cc5_ a5.out; obtain ⟨r5, r6, r7, r8, r9⟩ := cf5_ a5.out
        go_wp2_with (first | ((with_reducible refine gc_ 45 rfl ?_); refine gl_ (some 60) rfl Tryd.func45 #[.int .i64 a0_1] ?_; (with_reducible refine (impl_partOk.calls a0_1 false _ A38.out).mono ?_); rintro e w' ⟨rfl, ⟨nd, rfl⟩⟩; refine ⟨_, rfl, ?_⟩))
        go_ret
        exact ⟨by first | rfl | (simp [*, errW_none, errW_some] <;> rfl), by repeat (with_reducible first | exact HB.out | apply yab | apply yaa | apply yac | refine yae ?_ (Aside0.out ‹_›))⟩
      ·
       rw [if_neg c37] at H
       have i6 := beq_eq_false_iff_ne.mpr c37; have i7 := bne_iff_ne.mpr c37; obtain rfl := Option.some.inj H
       go_wp2
       go_ret
       exact ⟨by first | rfl | (simp [*, errW_none, errW_some] <;> rfl), by repeat (with_reducible first | exact HB.out | apply yab | apply yaa | apply yac | refine yae ?_ (Aside0.out ‹_›))⟩
end
section
open Go.Proofs.YtfafjpfigphchaaDoor.X renaming rd_T23 → yaa

def impl_opsOk.l0 : Nat → List (S23) → Int → Int → Option (Bool)
 | 0, _, _, _ => none
 | k + 1, x8, x9, x10 => if x10 < x9 then (if 0 ≤ x10 then (if x10 < (x8.length : Int) then ((impl_OpOk.f k ((rd_T23 x8 x10).f0) ((rd_T23 x8 x10).f1) ((rd_T23 x8 x10).f2) ((rd_T23 x8 x10).f3) ((rd_T23 x8 x10).f4)).bind fun t103 => (if t103 = true then (impl_opsOk.l0 k x8 x9 (wrap64 (x10 + 1))) else (some false))) else (none)) else (none)) else (some true)
def impl_opsOk.f (k : Nat) (l0 : List (S23)) : Option (Bool) := if (l0.length : Int) > 5 then (some false) else (impl_opsOk.l0 k l0 (l0.length : Int) 0)
set_option maxHeartbeats 8000000 in
set_option maxRecDepth 100000 in
theorem impl_opsOk.calls (k : Nat) (A0 : Option Addr) (c0 : Nat) (l0 : List (S23)) (r : Bool) (w : World) (hr0 : Kd.C k23 w A0 l0.length l0) (hc0 : l0.length ≤ c0) (h : impl_opsOk.f k l0 = some r) :
  Calls Tryd.prog 61 #[.slice A0 l0.length c0] w fun e w' => e = .returned (.bool r) ∧ Below w.heap.size w w' := by
 have hu23 := Tryd.underlying23; have HR0 := Aside0.mk hr0; have HC0 := Aside0.mk hc0; clear hr0 hc0; have HB := Aside0.mk (Below.refl w.heap.size w); have H : (if (l0.length : Int) > 5 then (some false) else (impl_opsOk.l0 k l0 (l0.length : Int) 0)) = some r := h; clear h
 by_cases c2 : (l0.length : Int) > 5
 ·
  rw [if_pos c2] at H
  have b1 : decide (5 < (l0.length : Int)) = true := decide_eq_true c2; have b2 : decide (5 < l0.length) = true := decide_eq_true (by omega); clear c2; obtain rfl := Option.some.inj H
  go_enter Tryd.func61, Tryd.ntmps61
  go_wp2
  go_ret
  exact ⟨by first | rfl | (simp [*, errW_none, errW_some] <;> rfl), upH HB.out⟩
 ·
  rw [if_neg c2] at H
  have b1 : decide (5 < (l0.length : Int)) = false := decide_eq_false c2; have b2 : decide (5 < l0.length) = false := decide_eq_false (by omega); clear c2; have H' := Aside0.mk H; clear H
  go_enter Tryd.func61, Tryd.ntmps61
  go_wp2
  (try simp only [Act.put, List.setIfInBounds_toArray, List.set_cons_zero, List.set_cons_succ])
  go_loopg [10] k (fun kq v10 w' => ∃ (a1 : Int), v10 = .int .i64 a1 ∧ Aside0 (impl_opsOk.l0 kq l0 (l0.length : Int) a1 = some r) ∧ Aside0 (kq ≤ k) ∧ Aside0 (Below w.heap.size w w'))
  case atStart => exact ⟨(0), (by first | rfl | (simp; done) | (simp [*]; done)), H', ⟨Nat.le_refl _⟩, ⟨upH HB.out⟩⟩
  case round =>
   clear H'; (try clear c2); (try clear b1); (try clear b2); (try clear p2); obtain ⟨a1, rfl, HA, HK1, HB⟩ := hrel
   cases gk with
   | zero => exact absurd HA.out (by simp [impl_opsOk.l0])
   | succ k1 =>
    have H := HA.out; clear HA
    simp only [impl_opsOk.l0] at H
    by_cases c3 : a1 < (l0.length : Int)
    ·
     rw [if_pos c3] at H
     have d0 : decide (a1 < (l0.length : Int)) = true := decide_eq_true c3; clear c3
     by_cases c4 : 0 ≤ a1
     ·
      rw [if_pos c4] at H
      replace c4 := decide_eq_true c4
      by_cases c5 : a1 < (l0.length : Int)
      ·
       rw [if_pos c5] at H
       replace c5 := decide_eq_true c5; obtain ⟨d1, A6, H⟩ := bindA H; (try dsimp only at H)
       by_cases c7 : d1 = true
       ·
        subst c7
        rw [if_pos rfl] at H
        have H' := Aside0.mk H; clear H; have p101 : 0 ≤ (a1 : Int) := of_decide_eq_true (by assumption); have q101 : a1 < (l0.length : Int) := of_decide_eq_true (by assumption); obtain ⟨ad101, b0, a3, a4, a5, a6, a7⟩ := at_T23 HR0.out a1 p101 q101
        cases b0
        replace a3 := (upc_ HB.out a3 :); replace a4 := (upc_ HB.out a4 :); replace a5 := (upc_ HB.out a5 :); replace a6 := (upc_ HB.out a6 :); replace a7 := (upc_ HB.out a7 :); replace p101 := eq_true p101; replace q101 := eq_true q101
        go_wp2_with (first | ((with_reducible refine gd_ 4 rfl ?_); refine bx_ 4 rfl #[.int .i64 0, .int .i64 0, .int .i64 0, .int .i64 0, .int .i64 0] 23 ?_; intro a8 hg w8 hbox hb; have a2 := Aside0.mk (hbox); have a9 := Aside0.mk ((by rw [hg]; exact (below_size (upH HB.out)) : w.heap.size ≤ a8)); replace HB := Aside0.mk (below_step (upH HB.out) hb); have b3 := a9; clear hb hbox hg; obtain ⟨d2, d3, d4, d5, d6⟩ := cc5_ a2.out; obtain ⟨d8, d9, e0, e1⟩ := cf4_ a2.out; have e3 := blk_frozen a2.out 4) | ((with_reducible refine gc_ 14 rfl ?_); refine gl_ (some 15) rfl Tryd.func14 #[.agg #[.int .i64 ((yaa l0 a1).f0), .int .i64 ((yaa l0 a1).f1), .int .i64 ((yaa l0 a1).f2), .int .i64 ((yaa l0 a1).f3), .int .i64 ((yaa l0 a1).f4)]] ?_; (with_reducible refine (impl_OpOk.calls k1 ((yaa l0 a1).f0) ((yaa l0 a1).f1) ((yaa l0 a1).f2) ((yaa l0 a1).f3) ((yaa l0 a1).f4) true _ A6.out).mono ?_); rintro e w10 ⟨rfl, hb⟩; refine ⟨_, rfl, ?_⟩; replace a2 := Aside0.mk (blk_below (g := a8) (o := .cells #[.int .i64 ((yaa l0 a1).f0), .int .i64 ((yaa l0 a1).f1), .int .i64 ((yaa l0 a1).f2), .int .i64 ((yaa l0 a1).f3), .int .i64 ((yaa l0 a1).f4)] 23 (0, 0)) (by (repeat refine oneB ?_); refine blk_put (cs := #[.int .i64 ((yaa l0 a1).f0), .int .i64 ((yaa l0 a1).f1), .int .i64 ((yaa l0 a1).f2), .int .i64 ((yaa l0 a1).f3), .int .i64 0]) ?_ 4 _ rfl; refine blk_put (cs := #[.int .i64 ((yaa l0 a1).f0), .int .i64 ((yaa l0 a1).f1), .int .i64 ((yaa l0 a1).f2), .int .i64 0, .int .i64 0]) ?_ 3 _ rfl; refine blk_put (cs := #[.int .i64 ((yaa l0 a1).f0), .int .i64 ((yaa l0 a1).f1), .int .i64 0, .int .i64 0, .int .i64 0]) ?_ 2 _ rfl; refine blk_put (cs := #[.int .i64 ((yaa l0 a1).f0), .int .i64 0, .int .i64 0, .int .i64 0, .int .i64 0]) ?_ 1 _ rfl; refine blk_put (cs := #[.int .i64 0, .int .i64 0, .int .i64 0, .int .i64 0, .int .i64 0]) ?_ 0 _ rfl; exact upB a2.out) hb); replace HB := Aside0.mk (below_step (by repeat (with_reducible first | exact HB.out | apply below_alloc | apply pw_below_drewN | apply below_drew1 | refine below_set ?_ (Aside0.out ‹_›))) hb); (try clear hb)))
        go_roundg k1
        case measure => have := HK1.out; omega
        case rel => exact ⟨(wrap64 (a1 + 1)), (by first | rfl | (simp; done) | (simp [*]; done)), H', ⟨by have := HK1.out; omega⟩, ⟨by repeat (with_reducible first | exact HB.out | apply below_alloc | apply pw_below_drewN | apply below_drew1 | refine below_set ?_ (Aside0.out ‹_›))⟩⟩
       ·
        replace c7 := Bool.eq_false_iff.mpr c7
        subst c7
        rw [if_neg (show ¬ (false = true) by decide)] at H
        obtain rfl := Option.some.inj H; have p101 : 0 ≤ (a1 : Int) := of_decide_eq_true (by assumption); have q101 : a1 < (l0.length : Int) := of_decide_eq_true (by assumption); obtain ⟨ad101, b0, a3, a4, a5, a6, a7⟩ := at_T23 HR0.out a1 p101 q101
        cases b0
        replace a3 := (upc_ HB.out a3 :); replace a4 := (upc_ HB.out a4 :); replace a5 := (upc_ HB.out a5 :); replace a6 := (upc_ HB.out a6 :); replace a7 := (upc_ HB.out a7 :); replace p101 := eq_true p101; replace q101 := eq_true q101
        go_wp2_with (first | ((with_reducible refine gd_ 4 rfl ?_); refine bx_ 4 rfl #[.int .i64 0, .int .i64 0, .int .i64 0, .int .i64 0, .int .i64 0] 23 ?_; intro a8 hg w11 hbox hb; have a2 := Aside0.mk (hbox); have a9 := Aside0.mk ((by rw [hg]; exact (below_size (upH HB.out)) : w.heap.size ≤ a8)); replace HB := Aside0.mk (below_step (upH HB.out) hb); have b3 := a9; clear hb hbox hg; obtain ⟨b4, b5, b6, b7, b8⟩ := cc5_ a2.out; obtain ⟨b9, c1, c6, c8⟩ := cf4_ a2.out; have c9 := blk_frozen a2.out 4) | ((with_reducible refine gc_ 14 rfl ?_); refine gl_ (some 15) rfl Tryd.func14 #[.agg #[.int .i64 ((yaa l0 a1).f0), .int .i64 ((yaa l0 a1).f1), .int .i64 ((yaa l0 a1).f2), .int .i64 ((yaa l0 a1).f3), .int .i64 ((yaa l0 a1).f4)]] ?_; (with_reducible refine (impl_OpOk.calls k1 ((yaa l0 a1).f0) ((yaa l0 a1).f1) ((yaa l0 a1).f2) ((yaa l0 a1).f3) ((yaa l0 a1).f4) false _ A6.out).mono ?_); rintro e w13 ⟨rfl, hb⟩; refine ⟨_, rfl, ?_⟩; replace a2 := Aside0.mk (blk_below (g := a8) (o := .cells #[.int .i64 ((yaa l0 a1).f0), .int .i64 ((yaa l0 a1).f1), .int .i64 ((yaa l0 a1).f2), .int .i64 ((yaa l0 a1).f3), .int .i64 ((yaa l0 a1).f4)] 23 (0, 0)) (by (repeat refine oneB ?_); refine blk_put (cs := #[.int .i64 ((yaa l0 a1).f0), .int .i64 ((yaa l0 a1).f1), .int .i64 ((yaa l0 a1).f2), .int .i64 ((yaa l0 a1).f3), .int .i64 0]) ?_ 4 _ rfl; refine blk_put (cs := #[.int .i64 ((yaa l0 a1).f0), .int .i64 ((yaa l0 a1).f1), .int .i64 ((yaa l0 a1).f2), .int .i64 0, .int .i64 0]) ?_ 3 _ rfl; refine blk_put (cs := #[.int .i64 ((yaa l0 a1).f0), .int .i64 ((yaa l0 a1).f1), .int .i64 0, .int .i64 0, .int .i64 0]) ?_ 2 _ rfl; refine blk_put (cs := #[.int .i64 ((yaa l0 a1).f0), .int .i64 0, .int .i64 0, .int .i64 0, .int .i64 0]) ?_ 1 _ rfl; refine blk_put (cs := #[.int .i64 0, .int .i64 0, .int .i64 0, .int .i64 0, .int .i64 0]) ?_ 0 _ rfl; exact upB a2.out) hb); replace HB := Aside0.mk (below_step (by repeat (with_reducible first | exact HB.out | apply below_alloc | apply pw_below_drewN | apply below_drew1 | refine below_set ?_ (Aside0.out ‹_›))) hb); (try clear hb)))
        go_ret
        exact ⟨by first | rfl | (simp [*, errW_none, errW_some] <;> rfl), by repeat (with_reducible first | exact HB.out | apply below_alloc | apply pw_below_drewN | apply below_drew1 | refine below_set ?_ (Aside0.out ‹_›))⟩
      ·
       rw [if_neg c5] at H
       exact absurd H (by simp)
     ·
      rw [if_neg c4] at H
      exact absurd H (by simp)
    ·
     rw [if_neg c3] at H
     have d0 : decide (a1 < (l0.length : Int)) = false := decide_eq_false c3; clear c3; obtain rfl := Option.some.inj H
     go_wp2
     go_ret
     exact ⟨by first | rfl | (simp [*, errW_none, errW_some] <;> rfl), upH HB.out⟩
end
section
open Go.Proofs.YtfafjpfigphchaaDoorW.PrintWords.Drawn0 renaming refl → yaa, step → yab

mutual
def impl_nameOk.j0 : Nat → ByteArray → Bool → Option (Bool)
 | 0, _, _ => none
 | k + 1, x0, x13 => if x13 = true then (some false) else (impl_nameOk.l0 k x0 (x0.size : Int) 0)
def impl_nameOk.l0 : Nat → ByteArray → Int → Int → Option (Bool)
 | 0, _, _, _ => none
 | k + 1, x0, x15, x16 => if x16 < x15 then (if 0 ≤ x16 then (if x16 < (x0.size : Int) then (if (bt x0 x16) ≥ 97 then (if (bt x0 x16) ≥ 48 then (if ((bt x0 x16) ≤ 122) then (impl_nameOk.l0 k x0 x15 (wrap64 (x16 + 1))) else (if ((bt x0 x16) ≤ 57) then (impl_nameOk.l0 k x0 x15 (wrap64 (x16 + 1))) else (some false))) else (if ((bt x0 x16) ≤ 122) then (impl_nameOk.l0 k x0 x15 (wrap64 (x16 + 1))) else (some false))) else (if (bt x0 x16) ≥ 48 then (if ((bt x0 x16) ≤ 57) then (impl_nameOk.l0 k x0 x15 (wrap64 (x16 + 1))) else (some false)) else (some false))) else (none)) else (none)) else (some true)
end
def impl_nameOk.f (k : Nat) (a0 : ByteArray) : Option (Bool) := if (a0.size : Int) < 1 then (impl_nameOk.j0 k a0 true) else (impl_nameOk.j0 k a0 (decide ((a0.size : Int) > 6)))
set_option maxHeartbeats 8000000 in
set_option maxRecDepth 100000 in
theorem impl_nameOk.calls (k : Nat) (a0 : ByteArray) (r : Bool) (w : World) (h : impl_nameOk.f k a0 = some r) :
  Calls Tryd.prog 62 #[.string a0] w fun e w' => e = .returned (.bool r) ∧ Drawn0 w w' := by
 have H : (if (a0.size : Int) < 1 then (impl_nameOk.j0 k a0 true) else (impl_nameOk.j0 k a0 (decide ((a0.size : Int) > 6)))) = some r := h; clear h; have HC2 := Aside0.mk H; clear H
 go_enter Tryd.func62, Tryd.ntmps62
 go_upto_region 1 with (fail)
 go_cut [13] (fun v13 wc => ∃ (kq : Nat) (a3 : Bool), v13 = .bool a3 ∧ Aside0 (impl_nameOk.j0 kq a0 a3 = some r) ∧ Aside0 (kq ≤ k) ∧ Drawn0 w wc)
 case first =>
  have H := HC2.out; clear HC2
  by_cases c3 : (a0.size : Int) < 1
  ·
   rw [if_pos c3] at H
   have a2 : decide ((a0.size : Int) < 1) = true := decide_eq_true c3; have a6 : decide (a0.size < 1) = true := decide_eq_true (by omega); clear c3
   (first | rw [a2] | (simp only [i64_w, i32_w]; rw [a2]) | skip)
   have H' := Aside0.mk H; clear H
   go_wp2
   go_meet
   case rel => exact ⟨_, (true), (by first | rfl | (simp; done) | (simp [*]; done)), H', ⟨by first | omega | exact Nat.le_refl _⟩, by repeat (first | exact yaa _ | apply yab)⟩
  ·
   rw [if_neg c3] at H
   have a2 : decide ((a0.size : Int) < 1) = false := decide_eq_false c3; have a6 : decide (a0.size < 1) = false := decide_eq_false (by omega); clear c3
   (first | rw [a2] | (simp only [i64_w, i32_w]; rw [a2]) | skip)
   have H' := Aside0.mk H; clear H
   go_wp2
   go_meet
   case rel => exact ⟨_, (decide ((a0.size : Int) > 6)), (by first | rfl | (simp; done) | (simp [*]; done)), H', ⟨by first | omega | exact Nat.le_refl _⟩, by repeat (first | exact yaa _ | apply yab)⟩
 case rest =>
  clear HC2; (try clear p2); (try clear c3); (try clear a2); (try clear a6); obtain ⟨kq, a3, rfl, HA, HJ1, ⟨mc1, rfl⟩⟩ := hcut
  cases kq with
  | zero => exact absurd HA.out (by simp [impl_nameOk.j0])
  | succ kj1 =>
   have H := HA.out; clear HA
   simp only [impl_nameOk.j0] at H
   by_cases c4 : a3 = true
   ·
    subst c4
    rw [if_pos rfl] at H
    obtain rfl := Option.some.inj H
    go_wp2
    go_ret
    exact ⟨by first | rfl | (simp; done) | (simp [*]; done), by repeat (first | exact yaa _ | apply yab)⟩
   ·
    replace c4 := Bool.eq_false_iff.mpr c4
    subst c4
    rw [if_neg (show ¬ (false = true) by decide)] at H
    have H' := Aside0.mk H; clear H
    go_wp2
    (try simp only [Act.put, List.setIfInBounds_toArray, List.set_cons_zero, List.set_cons_succ])
    go_loopg [16] kj1 (fun kq v16 w' => ∃ (a1 : Int), v16 = .int .i64 a1 ∧ Aside0 (impl_nameOk.l0 kq a0 (a0.size : Int) a1 = some r) ∧ Aside0 (kq ≤ kj1) ∧ Drawn0 w w')
    case atStart => exact ⟨(0), (by first | rfl | (simp; done) | (simp [*]; done)), H', ⟨Nat.le_refl _⟩, by repeat (first | exact yaa _ | apply yab)⟩
    case round =>
     clear H'; (try clear c1); (try clear p2); (try clear c3); (try clear a2); (try clear a6); (try clear c4); (try clear p2); obtain ⟨a1, rfl, HA, HK2, ⟨m2, rfl⟩⟩ := hrel
     cases gk with
     | zero => exact absurd HA.out (by simp [impl_nameOk.l0])
     | succ k2 =>
      have H := HA.out; clear HA
      simp only [impl_nameOk.l0] at H
      by_cases c5 : a1 < (a0.size : Int)
      ·
       rw [if_pos c5] at H
       have b5 : decide (a1 < (a0.size : Int)) = true := decide_eq_true c5; clear c5
       by_cases c6 : 0 ≤ a1
       ·
        rw [if_pos c6] at H
        replace c6 := decide_eq_true c6
        by_cases c7 : a1 < (a0.size : Int)
        ·
         rw [if_pos c7] at H
         replace c7 := decide_eq_true c7
         by_cases c9 : (bt a0 a1) ≥ 97
         ·
          rw [if_pos c9] at H
          have b6 : decide (97 ≤ (bt a0 a1)) = true := decide_eq_true c9; clear c9
          by_cases c12 : (bt a0 a1) ≥ 48
          ·
           rw [if_pos c12] at H
           have a7 : decide (48 ≤ (bt a0 a1)) = true := decide_eq_true c12; clear c12
           by_cases c14 : ((bt a0 a1) ≤ 122)
           ·
            rw [if_pos c14] at H
            have a8 : decide ((bt a0 a1) ≤ 122) = true := decide_eq_true c14; clear c14; have H' := Aside0.mk H; clear H; have p8 : 0 ≤ (a1 : Int) := of_decide_eq_true (by assumption); have q8 : a1 < (a0.size : Int) := of_decide_eq_true (by assumption); have hx8 := bt_at a0 a1; replace p8 := eq_true p8; replace q8 := eq_true q8; have p10 : 0 ≤ (a1 : Int) := of_decide_eq_true (by assumption); have q10 : a1 < (a0.size : Int) := of_decide_eq_true (by assumption); have a4 := bt_at a0 a1; replace p10 := eq_true p10; replace q10 := eq_true q10; have p11 : 0 ≤ (a1 : Int) := of_decide_eq_true (by assumption); have q11 : a1 < (a0.size : Int) := of_decide_eq_true (by assumption); have a5 := bt_at a0 a1; replace p11 := eq_true p11; replace q11 := eq_true q11; have p13 : 0 ≤ (a1 : Int) := of_decide_eq_true (by assumption); have q13 : a1 < (a0.size : Int) := of_decide_eq_true (by assumption); have a9 := bt_at a0 a1; replace p13 := eq_true p13; replace q13 := eq_true q13
            go_wp2
            go_roundg k2
            case measure => have := HJ1.out; have := HK2.out; omega
            case rel => exact ⟨(wrap64 (a1 + 1)), (by first | rfl | (simp; done) | (simp [*]; done)), H', ⟨by have := HJ1.out; have := HK2.out; omega⟩, by repeat (first | exact yaa _ | apply yab)⟩
           ·
            rw [if_neg c14] at H
            have a8 : decide ((bt a0 a1) ≤ 122) = false := decide_eq_false c14; clear c14
            by_cases c15 : ((bt a0 a1) ≤ 57)
            ·
             rw [if_pos c15] at H
             have b0 : decide ((bt a0 a1) ≤ 57) = true := decide_eq_true c15; clear c15; have H' := Aside0.mk H; clear H; have p8 : 0 ≤ (a1 : Int) := of_decide_eq_true (by assumption); have q8 : a1 < (a0.size : Int) := of_decide_eq_true (by assumption); have hx8 := bt_at a0 a1; replace p8 := eq_true p8; replace q8 := eq_true q8; have p10 : 0 ≤ (a1 : Int) := of_decide_eq_true (by assumption); have q10 : a1 < (a0.size : Int) := of_decide_eq_true (by assumption); have a4 := bt_at a0 a1; replace p10 := eq_true p10; replace q10 := eq_true q10; have p11 : 0 ≤ (a1 : Int) := of_decide_eq_true (by assumption); have q11 : a1 < (a0.size : Int) := of_decide_eq_true (by assumption); have a5 := bt_at a0 a1; replace p11 := eq_true p11; replace q11 := eq_true q11; have p13 : 0 ≤ (a1 : Int) := of_decide_eq_true (by assumption); have q13 : a1 < (a0.size : Int) := of_decide_eq_true (by assumption); have a9 := bt_at a0 a1; replace p13 := eq_true p13; replace q13 := eq_true q13
             go_wp2
             go_roundg k2
             case measure => have := HJ1.out; have := HK2.out; omega
             case rel => exact ⟨(wrap64 (a1 + 1)), (by first | rfl | (simp; done) | (simp [*]; done)), H', ⟨by have := HJ1.out; have := HK2.out; omega⟩, by repeat (first | exact yaa _ | apply yab)⟩
            ·
             rw [if_neg c15] at H
             have b0 : decide ((bt a0 a1) ≤ 57) = false := decide_eq_false c15; clear c15; obtain rfl := Option.some.inj H; have p8 : 0 ≤ (a1 : Int) := of_decide_eq_true (by assumption); have q8 : a1 < (a0.size : Int) := of_decide_eq_true (by assumption); have hx8 := bt_at a0 a1; replace p8 := eq_true p8; replace q8 := eq_true q8; have p10 : 0 ≤ (a1 : Int) := of_decide_eq_true (by assumption); have q10 : a1 < (a0.size : Int) := of_decide_eq_true (by assumption); have a4 := bt_at a0 a1; replace p10 := eq_true p10; replace q10 := eq_true q10; have p11 : 0 ≤ (a1 : Int) := of_decide_eq_true (by assumption); have q11 : a1 < (a0.size : Int) := of_decide_eq_true (by assumption); have a5 := bt_at a0 a1; replace p11 := eq_true p11; replace q11 := eq_true q11; have p13 : 0 ≤ (a1 : Int) := of_decide_eq_true (by assumption); have q13 : a1 < (a0.size : Int) := of_decide_eq_true (by assumption); have a9 := bt_at a0 a1; replace p13 := eq_true p13; replace q13 := eq_true q13
             go_wp2
             go_ret
             exact ⟨by first | rfl | (simp; done) | (simp [*]; done), by repeat (first | exact yaa _ | apply yab)⟩
          ·
           rw [if_neg c12] at H
           have a7 : decide (48 ≤ (bt a0 a1)) = false := decide_eq_false c12; clear c12
           by_cases c16 : ((bt a0 a1) ≤ 122)
           ·
            rw [if_pos c16] at H
            have b1 : decide ((bt a0 a1) ≤ 122) = true := decide_eq_true c16; clear c16; have H' := Aside0.mk H; clear H; have p8 : 0 ≤ (a1 : Int) := of_decide_eq_true (by assumption); have q8 : a1 < (a0.size : Int) := of_decide_eq_true (by assumption); have hx8 := bt_at a0 a1; replace p8 := eq_true p8; replace q8 := eq_true q8; have p10 : 0 ≤ (a1 : Int) := of_decide_eq_true (by assumption); have q10 : a1 < (a0.size : Int) := of_decide_eq_true (by assumption); have a4 := bt_at a0 a1; replace p10 := eq_true p10; replace q10 := eq_true q10; have p11 : 0 ≤ (a1 : Int) := of_decide_eq_true (by assumption); have q11 : a1 < (a0.size : Int) := of_decide_eq_true (by assumption); have a5 := bt_at a0 a1; replace p11 := eq_true p11; replace q11 := eq_true q11
            go_wp2
            go_roundg k2
            case measure => have := HJ1.out; have := HK2.out; omega
            case rel => exact ⟨(wrap64 (a1 + 1)), (by first | rfl | (simp; done) | (simp [*]; done)), H', ⟨by have := HJ1.out; have := HK2.out; omega⟩, by repeat (first | exact yaa _ | apply yab)⟩
           ·
            rw [if_neg c16] at H
            have b1 : decide ((bt a0 a1) ≤ 122) = false := decide_eq_false c16; clear c16; obtain rfl := Option.some.inj H; have p8 : 0 ≤ (a1 : Int) := of_decide_eq_true (by assumption); have q8 : a1 < (a0.size : Int) := of_decide_eq_true (by assumption); have hx8 := bt_at a0 a1; replace p8 := eq_true p8; replace q8 := eq_true q8; have p10 : 0 ≤ (a1 : Int) := of_decide_eq_true (by assumption); have q10 : a1 < (a0.size : Int) := of_decide_eq_true (by assumption); have a4 := bt_at a0 a1; replace p10 := eq_true p10; replace q10 := eq_true q10; have p11 : 0 ≤ (a1 : Int) := of_decide_eq_true (by assumption); have q11 : a1 < (a0.size : Int) := of_decide_eq_true (by assumption); have a5 := bt_at a0 a1; replace p11 := eq_true p11; replace q11 := eq_true q11
            go_wp2
            go_ret
            exact ⟨by first | rfl | (simp; done) | (simp [*]; done), by repeat (first | exact yaa _ | apply yab)⟩
         ·
          rw [if_neg c9] at H
          have b6 : decide (97 ≤ (bt a0 a1)) = false := decide_eq_false c9; clear c9
          by_cases c18 : (bt a0 a1) ≥ 48
          ·
           rw [if_pos c18] at H
           have b2 : decide (48 ≤ (bt a0 a1)) = true := decide_eq_true c18; clear c18
           by_cases c20 : ((bt a0 a1) ≤ 57)
           ·
            rw [if_pos c20] at H
            have b3 : decide ((bt a0 a1) ≤ 57) = true := decide_eq_true c20; clear c20; have H' := Aside0.mk H; clear H; have p8 : 0 ≤ (a1 : Int) := of_decide_eq_true (by assumption); have q8 : a1 < (a0.size : Int) := of_decide_eq_true (by assumption); have hx8 := bt_at a0 a1; replace p8 := eq_true p8; replace q8 := eq_true q8; have p17 : 0 ≤ (a1 : Int) := of_decide_eq_true (by assumption); have q17 : a1 < (a0.size : Int) := of_decide_eq_true (by assumption); have b4 := bt_at a0 a1; replace p17 := eq_true p17; replace q17 := eq_true q17; have p19 : 0 ≤ (a1 : Int) := of_decide_eq_true (by assumption); have q19 : a1 < (a0.size : Int) := of_decide_eq_true (by assumption); have b7 := bt_at a0 a1; replace p19 := eq_true p19; replace q19 := eq_true q19
            go_wp2
            go_roundg k2
            case measure => have := HJ1.out; have := HK2.out; omega
            case rel => exact ⟨(wrap64 (a1 + 1)), (by first | rfl | (simp; done) | (simp [*]; done)), H', ⟨by have := HJ1.out; have := HK2.out; omega⟩, by repeat (first | exact yaa _ | apply yab)⟩
           ·
            rw [if_neg c20] at H
            have b3 : decide ((bt a0 a1) ≤ 57) = false := decide_eq_false c20; clear c20; obtain rfl := Option.some.inj H; have p8 : 0 ≤ (a1 : Int) := of_decide_eq_true (by assumption); have q8 : a1 < (a0.size : Int) := of_decide_eq_true (by assumption); have hx8 := bt_at a0 a1; replace p8 := eq_true p8; replace q8 := eq_true q8; have p17 : 0 ≤ (a1 : Int) := of_decide_eq_true (by assumption); have q17 : a1 < (a0.size : Int) := of_decide_eq_true (by assumption); have b4 := bt_at a0 a1; replace p17 := eq_true p17; replace q17 := eq_true q17; have p19 : 0 ≤ (a1 : Int) := of_decide_eq_true (by assumption); have q19 : a1 < (a0.size : Int) := of_decide_eq_true (by assumption); have b7 := bt_at a0 a1; replace p19 := eq_true p19; replace q19 := eq_true q19
            go_wp2
            go_ret
            exact ⟨by first | rfl | (simp; done) | (simp [*]; done), by repeat (first | exact yaa _ | apply yab)⟩
          ·
           rw [if_neg c18] at H
           have b2 : decide (48 ≤ (bt a0 a1)) = false := decide_eq_false c18; clear c18; obtain rfl := Option.some.inj H; have p8 : 0 ≤ (a1 : Int) := of_decide_eq_true (by assumption); have q8 : a1 < (a0.size : Int) := of_decide_eq_true (by assumption); have hx8 := bt_at a0 a1; replace p8 := eq_true p8; replace q8 := eq_true q8; have p17 : 0 ≤ (a1 : Int) := of_decide_eq_true (by assumption); have q17 : a1 < (a0.size : Int) := of_decide_eq_true (by assumption); have b4 := bt_at a0 a1; replace p17 := eq_true p17; replace q17 := eq_true q17
           go_wp2
           go_ret
           exact ⟨by first | rfl | (simp; done) | (simp [*]; done), by repeat (first | exact yaa _ | apply yab)⟩
        ·
         rw [if_neg c7] at H
         exact absurd H (by simp)
       ·
        rw [if_neg c6] at H
        exact absurd H (by simp)
      ·
       rw [if_neg c5] at H
       have b5 : decide (a1 < (a0.size : Int)) = false := decide_eq_false c5; clear c5; obtain rfl := Option.some.inj H
       go_wp2
       go_ret
       exact ⟨by first | rfl | (simp; done) | (simp [*]; done), by repeat (first | exact yaa _ | apply yab)⟩
end
section
open Go.Proofs.YtfafjpfigphchaaDoorW.PrintWords.Aside0 renaming mk → yaa

def impl_AskOk.f (k : Nat) (l0_0 : List (S23)) (a0_1 : ByteArray) (a0_2 : Int) : Option (Bool) := (impl_opsOk.f k l0_0).bind fun t102 => (if t102 = true then ((impl_nameOk.f k a0_1).bind fun t103 => (if t103 = true then ((impl_within.f a0_2 0 9999).bind fun t104 => (some t104)) else (some false))) else (some false))
set_option maxHeartbeats 8000000 in
set_option maxRecDepth 100000 in
theorem impl_AskOk.calls (k : Nat) (A0_0 : Option Addr) (c0_0 : Nat) (l0_0 : List (S23)) (a0_1 : ByteArray) (a0_2 : Int) (r : Bool) (w : World) (hr0_0 : Kd.C k23 w A0_0 l0_0.length l0_0) (hc0_0 : l0_0.length ≤ c0_0) (h : impl_AskOk.f k l0_0 a0_1 a0_2 = some r) :
  Calls Tryd.prog 27 #[.agg #[.slice A0_0 l0_0.length c0_0, .string a0_1, .int .i64 a0_2]] w fun e w' => e = .returned (.bool r) ∧ Below w.heap.size w w' := by
 have hu37 := Tryd.underlying37; have HR0_0 := yaa hr0_0; have HC0_0 := yaa hc0_0; clear hr0_0 hc0_0; have HB := yaa (Below.refl w.heap.size w); have H : ((impl_opsOk.f k l0_0).bind fun a9 => (if a9 = true then ((impl_nameOk.f k a0_1).bind fun b0 => (if b0 = true then ((impl_within.f a0_2 0 9999).bind fun b1 => (some b1)) else (some false))) else (some false))) = some r := h; clear h; obtain ⟨a9, A2, H⟩ := bindA H; (try dsimp only at H)
 by_cases c3 : a9 = true
 ·
  subst c3
  rw [if_pos rfl] at H
  obtain ⟨b0, A4, H⟩ := bindA H; (try dsimp only at H)
  by_cases c5 : b0 = true
  ·
   subst c5
   rw [if_pos rfl] at H
   obtain ⟨b1, A6, H⟩ := bindA H; (try dsimp only at H); obtain rfl := Option.some.inj H
   go_enter Tryd.func27, Tryd.ntmps27
   go_wp2_with (first | ((with_reducible refine gd_ 1 rfl ?_); refine bx_ 1 rfl #[.slice A0_0 l0_0.length c0_0, .string a0_1, .int .i64 a0_2] 37 ?_; intro a4 hg w7 hbox hb; have a3 := yaa (hbox); have a5 := yaa ((by rw [hg]; exact (below_size (upH HB.out)) : w.heap.size ≤ a4)); replace HB := yaa (below_step (upH HB.out) hb); have a8 := a5; clear hb hbox hg; obtain ⟨d8, d9, e0⟩ := cc3_ a3.out; obtain ⟨e1, e2⟩ := cf2_ a3.out; have e3 := blk_frozen a3.out 2) | ((with_reducible refine gc_ 61 rfl ?_); refine gl_ (some 5) rfl Tryd.func61 #[.slice A0_0 l0_0.length c0_0] ?_; (with_reducible refine (impl_opsOk.calls k _ _ l0_0 true _ ?side1 ?side2 A2.out).mono ?_); (case side1 => repeat (first | exact (Kd.C_below HR0_0.out HB.out) | (with_reducible refine Kd.C_alloc ?_ _) | (with_reducible refine Kd.C_drewN ?_ _) | (with_reducible refine Kd.C_drew ?_))); (case side2 => exact HC0_0.out); rintro e w9 ⟨rfl, hb⟩; refine ⟨_, rfl, ?_⟩; replace a3 := yaa (blk_below (upB a3.out) hb); replace HB := yaa (below_step (by repeat (with_reducible first | exact HB.out | apply below_alloc | apply pw_below_drewN | apply below_drew1 | refine below_set ?_ (Aside0.out ‹_›))) hb); (try clear hb); obtain ⟨b2, b3, b4⟩ := cc3_ a3.out; obtain ⟨b5, b6⟩ := cf2_ a3.out; have b7 := blk_frozen a3.out 2) | (go_at_call 62; (with_reducible refine (impl_nameOk.calls k a0_1 true _ A4.out).mono ?_); rintro e w' ⟨rfl, ⟨nd, rfl⟩⟩) | (go_at_call 43; (with_reducible refine (impl_within.calls a0_2 0 9999 b1 _ A6.out).mono ?_); rintro e w' ⟨rfl, ⟨nd, rfl⟩⟩))
   go_ret
   exact ⟨by first | rfl | (simp [*, errW_none, errW_some] <;> rfl), by repeat (with_reducible first | exact HB.out | apply below_alloc | apply pw_below_drewN | apply below_drew1 | refine below_set ?_ (Aside0.out ‹_›))⟩
  ·
   replace c5 := Bool.eq_false_iff.mpr c5
   subst c5
   rw [if_neg (show ¬ (false = true) by decide)] at H
   obtain rfl := Option.some.inj H
   go_enter Tryd.func27, Tryd.ntmps27
   go_wp2_with (first | ((with_reducible refine gd_ 1 rfl ?_); refine bx_ 1 rfl #[.slice A0_0 l0_0.length c0_0, .string a0_1, .int .i64 a0_2] 37 ?_; intro a4 hg w11 hbox hb; have a3 := yaa (hbox); have a5 := yaa ((by rw [hg]; exact (below_size (upH HB.out)) : w.heap.size ≤ a4)); replace HB := yaa (below_step (upH HB.out) hb); have a8 := a5; clear hb hbox hg; obtain ⟨b8, b9, c0⟩ := cc3_ a3.out; obtain ⟨c1, c2⟩ := cf2_ a3.out; have c4 := blk_frozen a3.out 2) | ((with_reducible refine gc_ 61 rfl ?_); refine gl_ (some 5) rfl Tryd.func61 #[.slice A0_0 l0_0.length c0_0] ?_; (with_reducible refine (impl_opsOk.calls k _ _ l0_0 true _ ?side1 ?side2 A2.out).mono ?_); (case side1 => repeat (first | exact (Kd.C_below HR0_0.out HB.out) | (with_reducible refine Kd.C_alloc ?_ _) | (with_reducible refine Kd.C_drewN ?_ _) | (with_reducible refine Kd.C_drew ?_))); (case side2 => exact HC0_0.out); rintro e w13 ⟨rfl, hb⟩; refine ⟨_, rfl, ?_⟩; replace a3 := yaa (blk_below (upB a3.out) hb); replace HB := yaa (below_step (by repeat (with_reducible first | exact HB.out | apply below_alloc | apply pw_below_drewN | apply below_drew1 | refine below_set ?_ (Aside0.out ‹_›))) hb); (try clear hb); obtain ⟨c6, c7, c8⟩ := cc3_ a3.out; obtain ⟨c9, d0⟩ := cf2_ a3.out; have d1 := blk_frozen a3.out 2) | (go_at_call 62; (with_reducible refine (impl_nameOk.calls k a0_1 false _ A4.out).mono ?_); rintro e w' ⟨rfl, ⟨nd, rfl⟩⟩))
   go_ret
   exact ⟨by first | rfl | (simp [*, errW_none, errW_some] <;> rfl), by repeat (with_reducible first | exact HB.out | apply below_alloc | apply pw_below_drewN | apply below_drew1 | refine below_set ?_ (Aside0.out ‹_›))⟩
 ·
  replace c3 := Bool.eq_false_iff.mpr c3
  subst c3
  rw [if_neg (show ¬ (false = true) by decide)] at H
  obtain rfl := Option.some.inj H
  go_enter Tryd.func27, Tryd.ntmps27
  go_wp2_with (first | ((with_reducible refine gd_ 1 rfl ?_); refine bx_ 1 rfl #[.slice A0_0 l0_0.length c0_0, .string a0_1, .int .i64 a0_2] 37 ?_; intro a4 hg w15 hbox hb; have a3 := yaa (hbox); have a5 := yaa ((by rw [hg]; exact (below_size (upH HB.out)) : w.heap.size ≤ a4)); replace HB := yaa (below_step (upH HB.out) hb); have a8 := a5; clear hb hbox hg; obtain ⟨d2, d3, d4⟩ := cc3_ a3.out; obtain ⟨d5, d6⟩ := cf2_ a3.out; have d7 := blk_frozen a3.out 2) | ((with_reducible refine gc_ 61 rfl ?_); refine gl_ (some 5) rfl Tryd.func61 #[.slice A0_0 l0_0.length c0_0] ?_; (with_reducible refine (impl_opsOk.calls k _ _ l0_0 false _ ?side1 ?side2 A2.out).mono ?_); (case side1 => repeat (first | exact (Kd.C_below HR0_0.out HB.out) | (with_reducible refine Kd.C_alloc ?_ _) | (with_reducible refine Kd.C_drewN ?_ _) | (with_reducible refine Kd.C_drew ?_))); (case side2 => exact HC0_0.out); rintro e w17 ⟨rfl, hb⟩; refine ⟨_, rfl, ?_⟩; replace a3 := yaa (blk_below (upB a3.out) hb); replace HB := yaa (below_step (by repeat (with_reducible first | exact HB.out | apply below_alloc | apply pw_below_drewN | apply below_drew1 | refine below_set ?_ (Aside0.out ‹_›))) hb); (try clear hb)))
  go_ret
  exact ⟨by first | rfl | (simp [*, errW_none, errW_some] <;> rfl), by repeat (with_reducible first | exact HB.out | apply below_alloc | apply pw_below_drewN | apply below_drew1 | refine below_set ?_ (Aside0.out ‹_›))⟩
end
section
open Go.Proofs.YtfafjpfigphchaaDoorW.PrintWords.Aside0 renaming mk → yaa
open Go.Proofs.YtfafjpfigphchaaDoorW.PrintWords renaming pw_below_drewN → yab, below_alloc → yac, below_drew1 → yad, below_set → yae

def laws_eqOpOp.f (a0_0 : Int) (a0_1 : Int) (a0_2 : Int) (a0_3 : Int) (a0_4 : Int) (a1_0 : Int) (a1_1 : Int) (a1_2 : Int) (a1_3 : Int) (a1_4 : Int) : Option (Bool) := if a0_0 = a1_0 then (if a0_1 = a1_1 then (if a0_2 = a1_2 then (if a0_3 = a1_3 then (if a0_4 = a1_4 then (some true) else (some false)) else (some false)) else (some false)) else (some false)) else (some false)
set_option maxHeartbeats 8000000 in
set_option maxRecDepth 100000 in
theorem laws_eqOpOp.calls (a0_0 : Int) (a0_1 : Int) (a0_2 : Int) (a0_3 : Int) (a0_4 : Int) (a1_0 : Int) (a1_1 : Int) (a1_2 : Int) (a1_3 : Int) (a1_4 : Int) (r : Bool) (w : World) (h : laws_eqOpOp.f a0_0 a0_1 a0_2 a0_3 a0_4 a1_0 a1_1 a1_2 a1_3 a1_4 = some r) :
  Calls Tryd.prog 9 #[.agg #[.int .i64 a0_0, .int .i64 a0_1, .int .i64 a0_2, .int .i64 a0_3, .int .i64 a0_4], .agg #[.int .i64 a1_0, .int .i64 a1_1, .int .i64 a1_2, .int .i64 a1_3, .int .i64 a1_4]] w fun e w' => e = .returned (.bool r) ∧ Below w.heap.size w w' := by
 have hu23 := Tryd.underlying23; have HB := yaa (Below.refl w.heap.size w); have H : (if a0_0 = a1_0 then (if a0_1 = a1_1 then (if a0_2 = a1_2 then (if a0_3 = a1_3 then (if a0_4 = a1_4 then (some true) else (some false)) else (some false)) else (some false)) else (some false)) else (some false)) = some r := h; clear h
 by_cases c3 : a0_0 = a1_0
 ·
  rw [if_pos c3] at H
  have n8 := beq_iff_eq.mpr c3; have n9 := bne_eq_false_iff_eq.mpr c3; clear c3
  by_cases c4 : a0_1 = a1_1
  ·
   rw [if_pos c4] at H
   have o0 := beq_iff_eq.mpr c4; have o1 := bne_eq_false_iff_eq.mpr c4; clear c4
   by_cases c5 : a0_2 = a1_2
   ·
    rw [if_pos c5] at H
    have o2 := beq_iff_eq.mpr c5; have o3 := bne_eq_false_iff_eq.mpr c5; clear c5
    by_cases c6 : a0_3 = a1_3
    ·
     rw [if_pos c6] at H
     have o4 := beq_iff_eq.mpr c6; have o5 := bne_eq_false_iff_eq.mpr c6; clear c6
     by_cases c7 : a0_4 = a1_4
     ·
      rw [if_pos c7] at H
      have o6 := beq_iff_eq.mpr c7; have o7 := bne_eq_false_iff_eq.mpr c7; clear c7; obtain rfl := Option.some.inj H
      go_enter Tryd.func9, Tryd.ntmps9
      go_wp2_with (first | ((with_reducible refine gd_ 2 rfl ?_); refine bx_ 2 rfl #[.int .i64 a0_0, .int .i64 a0_1, .int .i64 a0_2, .int .i64 a0_3, .int .i64 a0_4] 23 ?_; intro a4 hg w8 hbox hb; have a1 := yaa (hbox); have a6 := yaa ((by rw [hg]; exact (below_size (upH HB.out)) : w.heap.size ≤ a4)); replace HB := yaa (below_step (upH HB.out) hb); have a9 := a6; clear hb hbox hg) | ((with_reducible refine gd_ 3 rfl ?_); refine bx_ 3 rfl #[.int .i64 a1_0, .int .i64 a1_1, .int .i64 a1_2, .int .i64 a1_3, .int .i64 a1_4] 23 ?_; intro a5 hg w9 hbox hb; have a3 := yaa (hbox); have a7 := yaa ((by rw [hg]; exact (below_size (by repeat (with_reducible first | exact HB.out | apply yac | apply yab | apply yad | refine yae ?_ (Aside0.out ‹_›)))) : w.heap.size ≤ a5)); replace HB := yaa (below_step (by repeat (with_reducible first | exact HB.out | apply yac | apply yab | apply yad | refine yae ?_ (Aside0.out ‹_›))) hb); have b0 := a7; have a0 := yaa ((by rw [hg]; exact Nat.ne_of_lt (blk_lt (upB a1.out)) : a4 ≠ a5)); replace a1 := yaa (blk_below (upB a1.out) hb); have a2 := yaa a0.out.symm; clear hb hbox hg; have o8 := a0.out; have o9 := a2.out; obtain ⟨b3, b4, b5, b6, b7⟩ := cc5_ a1.out; obtain ⟨b8, b9, c0, c1, c2⟩ := cf5_ a1.out; obtain ⟨c8, c9, d0, d1, d2⟩ := cc5_ a3.out; obtain ⟨d3, d4, d5, d6⟩ := cf4_ a3.out; have d7 := blk_frozen a3.out 4))
      go_ret
      exact ⟨by first | rfl | (simp [*, errW_none, errW_some] <;> rfl), by repeat (with_reducible first | exact HB.out | apply yac | apply yab | apply yad | refine yae ?_ (Aside0.out ‹_›))⟩
     ·
      rw [if_neg c7] at H
      have o6 := beq_eq_false_iff_ne.mpr c7; have o7 := bne_iff_ne.mpr c7; obtain rfl := Option.some.inj H
      go_enter Tryd.func9, Tryd.ntmps9
      go_wp2_with (first | ((with_reducible refine gd_ 2 rfl ?_); refine bx_ 2 rfl #[.int .i64 a0_0, .int .i64 a0_1, .int .i64 a0_2, .int .i64 a0_3, .int .i64 a0_4] 23 ?_; intro a4 hg w13 hbox hb; have a1 := yaa (hbox); have a6 := yaa ((by rw [hg]; exact (below_size (upH HB.out)) : w.heap.size ≤ a4)); replace HB := yaa (below_step (upH HB.out) hb); have a9 := a6; clear hb hbox hg) | ((with_reducible refine gd_ 3 rfl ?_); refine bx_ 3 rfl #[.int .i64 a1_0, .int .i64 a1_1, .int .i64 a1_2, .int .i64 a1_3, .int .i64 a1_4] 23 ?_; intro a5 hg w14 hbox hb; have a3 := yaa (hbox); have a7 := yaa ((by rw [hg]; exact (below_size (by repeat (with_reducible first | exact HB.out | apply yac | apply yab | apply yad | refine yae ?_ (Aside0.out ‹_›)))) : w.heap.size ≤ a5)); replace HB := yaa (below_step (by repeat (with_reducible first | exact HB.out | apply yac | apply yab | apply yad | refine yae ?_ (Aside0.out ‹_›))) hb); have b0 := a7; have a0 := yaa ((by rw [hg]; exact Nat.ne_of_lt (blk_lt (upB a1.out)) : a4 ≠ a5)); replace a1 := yaa (blk_below (upB a1.out) hb); have a2 := yaa a0.out.symm; clear hb hbox hg; have p0 := a0.out; have p1 := a2.out; obtain ⟨d8, d9, e0, e1, e2⟩ := cc5_ a1.out; obtain ⟨e3, e4, e5, e6, e7⟩ := cf5_ a1.out; obtain ⟨e8, e9, f0, f1, f2⟩ := cc5_ a3.out; obtain ⟨f3, f4, f5, f6⟩ := cf4_ a3.out; have f7 := blk_frozen a3.out 4))
      go_ret
      exact ⟨by first | rfl | (simp [*, errW_none, errW_some] <;> rfl), by repeat (with_reducible first | exact HB.out | apply yac | apply yab | apply yad | refine yae ?_ (Aside0.out ‹_›))⟩
    ·
     rw [if_neg c6] at H
     have o4 := beq_eq_false_iff_ne.mpr c6; have o5 := bne_iff_ne.mpr c6; obtain rfl := Option.some.inj H
     go_enter Tryd.func9, Tryd.ntmps9
     go_wp2_with (first | ((with_reducible refine gd_ 2 rfl ?_); refine bx_ 2 rfl #[.int .i64 a0_0, .int .i64 a0_1, .int .i64 a0_2, .int .i64 a0_3, .int .i64 a0_4] 23 ?_; intro a4 hg w18 hbox hb; have a1 := yaa (hbox); have a6 := yaa ((by rw [hg]; exact (below_size (upH HB.out)) : w.heap.size ≤ a4)); replace HB := yaa (below_step (upH HB.out) hb); have a9 := a6; clear hb hbox hg) | ((with_reducible refine gd_ 3 rfl ?_); refine bx_ 3 rfl #[.int .i64 a1_0, .int .i64 a1_1, .int .i64 a1_2, .int .i64 a1_3, .int .i64 a1_4] 23 ?_; intro a5 hg w19 hbox hb; have a3 := yaa (hbox); have a7 := yaa ((by rw [hg]; exact (below_size (by repeat (with_reducible first | exact HB.out | apply yac | apply yab | apply yad | refine yae ?_ (Aside0.out ‹_›)))) : w.heap.size ≤ a5)); replace HB := yaa (below_step (by repeat (with_reducible first | exact HB.out | apply yac | apply yab | apply yad | refine yae ?_ (Aside0.out ‹_›))) hb); have b0 := a7; have a0 := yaa ((by rw [hg]; exact Nat.ne_of_lt (blk_lt (upB a1.out)) : a4 ≠ a5)); replace a1 := yaa (blk_below (upB a1.out) hb); have a2 := yaa a0.out.symm; clear hb hbox hg; have p2 := a0.out; have p3 := a2.out; obtain ⟨f8, f9, g0, g1, g2⟩ := cc5_ a1.out; obtain ⟨g3, g4, g5, g6, g7⟩ := cf5_ a1.out; obtain ⟨g8, g9, h0, h1, h2⟩ := cc5_ a3.out; obtain ⟨h3, h4, h5, h6⟩ := cf4_ a3.out; have h7 := blk_frozen a3.out 4))
     go_ret
     exact ⟨by first | rfl | (simp [*, errW_none, errW_some] <;> rfl), by repeat (with_reducible first | exact HB.out | apply yac | apply yab | apply yad | refine yae ?_ (Aside0.out ‹_›))⟩
   ·
    rw [if_neg c5] at H
    have o2 := beq_eq_false_iff_ne.mpr c5; have o3 := bne_iff_ne.mpr c5; obtain rfl := Option.some.inj H
    go_enter Tryd.func9, Tryd.ntmps9
    go_wp2_with (first | ((with_reducible refine gd_ 2 rfl ?_); refine bx_ 2 rfl #[.int .i64 a0_0, .int .i64 a0_1, .int .i64 a0_2, .int .i64 a0_3, .int .i64 a0_4] 23 ?_; intro a4 hg w23 hbox hb; have a1 := yaa (hbox); have a6 := yaa ((by rw [hg]; exact (below_size (upH HB.out)) : w.heap.size ≤ a4)); replace HB := yaa (below_step (upH HB.out) hb); have a9 := a6; clear hb hbox hg) | ((with_reducible refine gd_ 3 rfl ?_); refine bx_ 3 rfl #[.int .i64 a1_0, .int .i64 a1_1, .int .i64 a1_2, .int .i64 a1_3, .int .i64 a1_4] 23 ?_; intro a5 hg w24 hbox hb; have a3 := yaa (hbox); have a7 := yaa ((by rw [hg]; exact (below_size (by repeat (with_reducible first | exact HB.out | apply yac | apply yab | apply yad | refine yae ?_ (Aside0.out ‹_›)))) : w.heap.size ≤ a5)); replace HB := yaa (below_step (by repeat (with_reducible first | exact HB.out | apply yac | apply yab | apply yad | refine yae ?_ (Aside0.out ‹_›))) hb); have b0 := a7; have a0 := yaa ((by rw [hg]; exact Nat.ne_of_lt (blk_lt (upB a1.out)) : a4 ≠ a5)); replace a1 := yaa (blk_below (upB a1.out) hb); have a2 := yaa a0.out.symm; clear hb hbox hg; have p4 := a0.out; have p5 := a2.out; obtain ⟨h8, h9, i0, i1, i2⟩ := cc5_ a1.out; obtain ⟨i3, i4, i5, i6, i7⟩ := cf5_ a1.out; obtain ⟨i8, i9, j0, j1, j2⟩ := cc5_ a3.out; obtain ⟨j3, j4, j5, j6⟩ := cf4_ a3.out; have j7 := blk_frozen a3.out 4))
    go_ret
    exact ⟨by first | rfl | (simp [*, errW_none, errW_some] <;> rfl), by repeat (with_reducible first | exact HB.out | apply yac | apply yab | apply yad | refine yae ?_ (Aside0.out ‹_›))⟩
  ·
   rw [if_neg c4] at H
   have o0 := beq_eq_false_iff_ne.mpr c4; have o1 := bne_iff_ne.mpr c4; obtain rfl := Option.some.inj H
   go_enter Tryd.func9, Tryd.ntmps9
   go_wp2_with (first | ((with_reducible refine gd_ 2 rfl ?_); refine bx_ 2 rfl #[.int .i64 a0_0, .int .i64 a0_1, .int .i64 a0_2, .int .i64 a0_3, .int .i64 a0_4] 23 ?_; intro a4 hg w28 hbox hb; have a1 := yaa (hbox); have a6 := yaa ((by rw [hg]; exact (below_size (upH HB.out)) : w.heap.size ≤ a4)); replace HB := yaa (below_step (upH HB.out) hb); have a9 := a6; clear hb hbox hg) | ((with_reducible refine gd_ 3 rfl ?_); refine bx_ 3 rfl #[.int .i64 a1_0, .int .i64 a1_1, .int .i64 a1_2, .int .i64 a1_3, .int .i64 a1_4] 23 ?_; intro a5 hg w29 hbox hb; have a3 := yaa (hbox); have a7 := yaa ((by rw [hg]; exact (below_size (by repeat (with_reducible first | exact HB.out | apply yac | apply yab | apply yad | refine yae ?_ (Aside0.out ‹_›)))) : w.heap.size ≤ a5)); replace HB := yaa (below_step (by repeat (with_reducible first | exact HB.out | apply yac | apply yab | apply yad | refine yae ?_ (Aside0.out ‹_›))) hb); have b0 := a7; have a0 := yaa ((by rw [hg]; exact Nat.ne_of_lt (blk_lt (upB a1.out)) : a4 ≠ a5)); replace a1 := yaa (blk_below (upB a1.out) hb); have a2 := yaa a0.out.symm; clear hb hbox hg; have p6 := a0.out; have p7 := a2.out; obtain ⟨j8, j9, k0, k1, k2⟩ := cc5_ a1.out; obtain ⟨k3, k4, k5, k6, k7⟩ := cf5_ a1.out; obtain ⟨k8, k9, l0, l1, l2⟩ := cc5_ a3.out; obtain ⟨l3, l4, l5, l6⟩ := cf4_ a3.out; have l7 := blk_frozen a3.out 4))
   go_ret
   exact ⟨by first | rfl | (simp [*, errW_none, errW_some] <;> rfl), by repeat (with_reducible first | exact HB.out | apply yac | apply yab | apply yad | refine yae ?_ (Aside0.out ‹_›))⟩
 ·
  rw [if_neg c3] at H
  have n8 := beq_eq_false_iff_ne.mpr c3; have n9 := bne_iff_ne.mpr c3; obtain rfl := Option.some.inj H
  go_enter Tryd.func9, Tryd.ntmps9
  go_wp2_with (first | ((with_reducible refine gd_ 2 rfl ?_); refine bx_ 2 rfl #[.int .i64 a0_0, .int .i64 a0_1, .int .i64 a0_2, .int .i64 a0_3, .int .i64 a0_4] 23 ?_; intro a4 hg w33 hbox hb; have a1 := yaa (hbox); have a6 := yaa ((by rw [hg]; exact (below_size (upH HB.out)) : w.heap.size ≤ a4)); replace HB := yaa (below_step (upH HB.out) hb); have a9 := a6; clear hb hbox hg) | ((with_reducible refine gd_ 3 rfl ?_); refine bx_ 3 rfl #[.int .i64 a1_0, .int .i64 a1_1, .int .i64 a1_2, .int .i64 a1_3, .int .i64 a1_4] 23 ?_; intro a5 hg w34 hbox hb; have a3 := yaa (hbox); have a7 := yaa ((by rw [hg]; exact (below_size (by repeat (with_reducible first | exact HB.out | apply yac | apply yab | apply yad | refine yae ?_ (Aside0.out ‹_›)))) : w.heap.size ≤ a5)); replace HB := yaa (below_step (by repeat (with_reducible first | exact HB.out | apply yac | apply yab | apply yad | refine yae ?_ (Aside0.out ‹_›))) hb); have b0 := a7; have a0 := yaa ((by rw [hg]; exact Nat.ne_of_lt (blk_lt (upB a1.out)) : a4 ≠ a5)); replace a1 := yaa (blk_below (upB a1.out) hb); have a2 := yaa a0.out.symm; clear hb hbox hg; have p8 := a0.out; have p9 := a2.out; obtain ⟨l8, l9, m0, m1, m2⟩ := cc5_ a1.out; obtain ⟨m3, m4, m5, m6, m7⟩ := cf5_ a1.out; obtain ⟨m8, m9, n0, n1, n2⟩ := cc5_ a3.out; obtain ⟨n3, n4, n5, n6⟩ := cf4_ a3.out; have n7 := blk_frozen a3.out 4))
  go_ret
  exact ⟨by first | rfl | (simp [*, errW_none, errW_some] <;> rfl), by repeat (with_reducible first | exact HB.out | apply yac | apply yab | apply yad | refine yae ?_ (Aside0.out ‹_›))⟩
end
section
open Go.Proofs.YtfafjpfigphchaaDoor.X renaming rd_T23 → yaa

abbrev q54_0 : Array Bool := Array.replicate 10 false
abbrev q54_1 : Array Bool := #[true, false, false, false, false, false, false, false, false, false]
abbrev q54_2 : Array Bool := #[true, true, false, false, false, false, false, false, false, false]
abbrev q54_3 : Array Bool := #[true, true, true, false, false, false, false, false, false, false]
abbrev q54_4 : Array Bool := #[true, true, true, false, true, false, false, false, false, false]
abbrev q54_5 : Array Bool := #[true, true, true, false, true, true, false, false, false, false]
abbrev q54_6 : Array Bool := #[true, true, true, false, true, true, true, false, false, false]
abbrev q54_7 : Array Bool := #[true, true, true, true, true, true, true, false, false, false]
abbrev q54_8 : Array Bool := #[true, true, true, true, true, true, true, true, false, false]
abbrev q54_9 : Array Bool := #[true, true, true, true, true, true, true, true, true, false]
abbrev q54_10 : Array Bool := #[true, true, true, true, true, true, true, true, true, true]
def laws_eqOpOpS.l0 : Nat → List (S23) → List (S23) → Int → Option (Bool)
 | 0, _, _, _ => none
 | k + 1, x0, x1, x5 => if x5 < (x0.length : Int) then (if 0 ≤ x5 then (if x5 < (x1.length : Int) then ((laws_eqOpOp.f ((rd_T23 x0 x5).f0) ((rd_T23 x0 x5).f1) ((rd_T23 x0 x5).f2) ((rd_T23 x0 x5).f3) ((rd_T23 x0 x5).f4) ((rd_T23 x1 x5).f0) ((rd_T23 x1 x5).f1) ((rd_T23 x1 x5).f2) ((rd_T23 x1 x5).f3) ((rd_T23 x1 x5).f4)).bind fun t103 => (if t103 = true then (laws_eqOpOpS.l0 k x0 x1 (wrap64 (x5 + 1))) else (some false))) else (none)) else (none)) else (some true)
def laws_eqOpOpS.f (k : Nat) (l0 : List (S23)) (l1 : List (S23)) : Option (Bool) := if (l0.length : Int) = (l1.length : Int) then (laws_eqOpOpS.l0 k l0 l1 0) else (some false)
def laws_eqOpOpS.T6 : Bool × List (List Nat × List Nat) := (true, [([], []), ([], []), ([0, 1], [0, 1]), ([2], [2]), ([], []), ([], []), ([4, 5], [4, 5]), ([6], [6]), ([3, 7], [3, 7]), ([8], [8])])
def laws_eqOpOpS.B6 : List Nat := [0, 0, 3, 7, 0, 0, 48, 112, 255, 511]
theorem laws_eqOpOpS.tab6 : rtab .any (opsOf Tryd.f54 6) = laws_eqOpOpS.T6 := by kernel_rfl
theorem laws_eqOpOpS.bits6 : waitsOk laws_eqOpOpS.T6.2 laws_eqOpOpS.B6 = true := by kernel_rfl
set_option maxHeartbeats 8000000 in
set_option maxRecDepth 100000 in
theorem laws_eqOpOpS.calls (k : Nat) (A0 : Option Addr) (c0 : Nat) (l0 : List (S23)) (A1 : Option Addr) (c1 : Nat) (l1 : List (S23)) (r : Bool) (w : World) (hr0 : Kd.C k23 w A0 l0.length l0) (hc0 : l0.length ≤ c0) (hr1 : Kd.C k23 w A1 l1.length l1) (hc1 : l1.length ≤ c1) (h : laws_eqOpOpS.f k l0 l1 = some r) :
  Calls Tryd.prog 54 #[.slice A0 l0.length c0, .slice A1 l1.length c1] w fun e w' => e = .returned (.bool r) ∧ Below w.heap.size w w' := by
 have hu23 := Tryd.underlying23; have HR0 := Aside0.mk hr0; have HC0 := Aside0.mk hc0; clear hr0 hc0; have HR1 := Aside0.mk hr1; have HC1 := Aside0.mk hc1; clear hr1 hc1; have HB := Aside0.mk (Below.refl w.heap.size w); have H : (if (l0.length : Int) = (l1.length : Int) then (laws_eqOpOpS.l0 k l0 l1 0) else (some false)) = some r := h; clear h
 by_cases c3 : (l0.length : Int) = (l1.length : Int)
 ·
  rw [if_pos c3] at H
  have d2 := beq_iff_eq.mpr c3; have d3 := bne_eq_false_iff_eq.mpr c3
  have d4 : (l0.length == l1.length) = true := by first | simpa using c3 | (simp at c3 ⊢; omega)
  clear c3; have H' := Aside0.mk H; clear H
  go_enter Tryd.func54, Tryd.ntmps54
  go_wp2
  (try simp only [Act.put, List.setIfInBounds_toArray, List.set_cons_zero, List.set_cons_succ])
  go_loopg [5] k (fun kq v5 w' => ∃ (a2 : Int), v5 = .int .i64 a2 ∧ Aside0 (laws_eqOpOpS.l0 kq l0 l1 a2 = some r) ∧ Aside0 (kq ≤ k) ∧ Aside0 (Below w.heap.size w w'))
  case atStart => exact ⟨(0), (by first | rfl | (simp; done) | (simp [*]; done)), H', ⟨Nat.le_refl _⟩, ⟨upH HB.out⟩⟩
  case round =>
   clear H'; (try clear c1); (try clear p2); (try clear c3); (try clear d2); (try clear d3); (try clear d4); obtain ⟨a2, rfl, HA, HK1, HB⟩ := hrel
   cases gk with
   | zero => exact absurd HA.out (by simp [laws_eqOpOpS.l0])
   | succ k1 =>
    have H := HA.out; clear HA
    simp only [laws_eqOpOpS.l0] at H
    by_cases c4 : a2 < (l0.length : Int)
    ·
     rw [if_pos c4] at H
     have d5 : decide (a2 < (l0.length : Int)) = true := decide_eq_true c4; clear c4
     by_cases c5 : 0 ≤ a2
     ·
      rw [if_pos c5] at H
      replace c5 := decide_eq_true c5
      by_cases c6 : a2 < (l1.length : Int)
      ·
       rw [if_pos c6] at H
       replace c6 := decide_eq_true c6; obtain ⟨d6, A7, H⟩ := bindA H; (try dsimp only at H)
       by_cases c8 : d6 = true
       ·
        subst c8
        rw [if_pos rfl] at H
        have H' := Aside0.mk H; clear H
        try go_wp2
        replace HB := Aside0.mk (below_drew1 HB.out); have p101 : 0 ≤ (a2 : Int) := of_decide_eq_true (by assumption); have q101 : a2 < (l0.length : Int) := of_decide_eq_true (by assumption); obtain ⟨ad101, d0, a3, a4, a5, a6, a7⟩ := at_T23 HR0.out a2 p101 q101; have b3 := a7; have b4 := a6; have b5 := a5; have b6 := a4; have b7 := a3
        cases d0
        replace a3 := (upc_ HB.out a3 :); replace a4 := (upc_ HB.out a4 :); replace a5 := (upc_ HB.out a5 :); replace a6 := (upc_ HB.out a6 :); replace a7 := (upc_ HB.out a7 :); replace p101 := eq_true p101; replace q101 := eq_true q101; have p102 : 0 ≤ (a2 : Int) := of_decide_eq_true (by assumption); have q102 : a2 < (l1.length : Int) := of_decide_eq_true (by assumption); obtain ⟨ad102, d1, a8, a9, b0, b1, b2⟩ := at_T23 HR1.out a2 p102 q102; have b8 := b2; have b9 := b1; have c2 := b0; have c7 := a9; have c9 := a8
        cases d1
        replace a8 := (upc_ HB.out a8 :); replace a9 := (upc_ HB.out a9 :); replace b0 := (upc_ HB.out b0 :); replace b1 := (upc_ HB.out b1 :); replace b2 := (upc_ HB.out b2 :); replace p102 := eq_true p102; replace q102 := eq_true q102
        refine start_ (n := 10) (S := fun w' => w'.cell? (ad101.add ((a2).toNat * 5)) = some (.int .i64 ((yaa l0 a2).f0)) ∧ w'.cell? ⟨(ad101.add ((a2).toNat * 5)).block, (ad101.add ((a2).toNat * 5)).off + 1, none⟩ = some (.int .i64 ((yaa l0 a2).f1)) ∧ w'.cell? ⟨(ad101.add ((a2).toNat * 5)).block, (ad101.add ((a2).toNat * 5)).off + 2, none⟩ = some (.int .i64 ((yaa l0 a2).f2)) ∧ w'.cell? ⟨(ad101.add ((a2).toNat * 5)).block, (ad101.add ((a2).toNat * 5)).off + 3, none⟩ = some (.int .i64 ((yaa l0 a2).f3)) ∧ w'.cell? ⟨(ad101.add ((a2).toNat * 5)).block, (ad101.add ((a2).toNat * 5)).off + 4, none⟩ = some (.int .i64 ((yaa l0 a2).f4)) ∧ w'.cell? (ad102.add ((a2).toNat * 5)) = some (.int .i64 ((yaa l1 a2).f0)) ∧ w'.cell? ⟨(ad102.add ((a2).toNat * 5)).block, (ad102.add ((a2).toNat * 5)).off + 1, none⟩ = some (.int .i64 ((yaa l1 a2).f1)) ∧ w'.cell? ⟨(ad102.add ((a2).toNat * 5)).block, (ad102.add ((a2).toNat * 5)).off + 2, none⟩ = some (.int .i64 ((yaa l1 a2).f2)) ∧ w'.cell? ⟨(ad102.add ((a2).toNat * 5)).block, (ad102.add ((a2).toNat * 5)).off + 3, none⟩ = some (.int .i64 ((yaa l1 a2).f3)) ∧ w'.cell? ⟨(ad102.add ((a2).toNat * 5)).block, (ad102.add ((a2).toNat * 5)).off + 4, none⟩ = some (.int .i64 ((yaa l1 a2).f4))) (ds := []) q54_0 (by kernel_rfl) rfl rfl ⟨(upc_ HB.out b7 :), (upc_ HB.out b6 :), (upc_ HB.out b5 :), (upc_ HB.out b4 :), (upc_ HB.out b3 :), (upc_ HB.out c9 :), (upc_ HB.out c7 :), (upc_ HB.out c2 :), (upc_ HB.out b9 :), (upc_ HB.out b8 :)⟩ (fun hHeld => ?_); refine with_tabW laws_eqOpOpS.tab6 laws_eqOpOpS.bits6 (fun HT_ HW_ => ?_)
        generalize wr.drew = w9 at HB a3 a4 a5 a6 a7 a8 a9 b0 b1 b2 hHeld ⊢
        refine pz_ 0 17 q54_1 HT_ (by kernel_rfl) ?_
        refine pz_ 1 18 q54_2 HT_ (by kernel_rfl) ?_
        refine pz_ 2 19 q54_3 HT_ (by kernel_rfl) ?_
        refine pz_ 4 21 q54_4 HT_ (by kernel_rfl) ?_
        refine pz_ 5 22 q54_5 HT_ (by kernel_rfl) ?_
        refine pz_ 6 23 q54_6 HT_ (by kernel_rfl) ?_
        refine tz_ 3 20 q54_7 HT_ HW_ (by kernel_rfl) hHeld ?_
        refine tz_ 7 24 q54_8 HT_ HW_ (by kernel_rfl) hHeld ?_
        refine one_ (i := 8) (N := some 25) q54_9 rfl rfl (one_of HT_.out (by kernel_rfl)) (by decide) (fun K hK => ?_)
        refine goes_ Tryd.func9 (by kernel_rfl) rfl #[.agg #[.int .i64 ((yaa l0 a2).f0), .int .i64 ((yaa l0 a2).f1), .int .i64 ((yaa l0 a2).f2), .int .i64 ((yaa l0 a2).f3), .int .i64 ((yaa l0 a2).f4)], .agg #[.int .i64 ((yaa l1 a2).f0), .int .i64 ((yaa l1 a2).f1), .int .i64 ((yaa l1 a2).f2), .int .i64 ((yaa l1 a2).f3), .int .i64 ((yaa l1 a2).f4)]] (by rfl) rfl rfl (by (try simp only [List.map_toArray, List.map_cons, List.map_nil]); first | done | rfl | (simp only [List.length_drop, List.length_take]; rfl)) ?_
        with_reducible refine (laws_eqOpOp.calls ((yaa l0 a2).f0) ((yaa l0 a2).f1) ((yaa l0 a2).f2) ((yaa l0 a2).f3) ((yaa l0 a2).f4) ((yaa l1 a2).f0) ((yaa l1 a2).f1) ((yaa l1 a2).f2) ((yaa l1 a2).f3) ((yaa l1 a2).f4) true _ A7.out).mono ?_
        rintro e w10 ⟨rfl, hb⟩; refine ⟨_, rfl, ?_⟩; replace HB := Aside0.mk (below_step (upH HB.out) hb); (try clear hb); (try clear hb2); (try clear hk); (try clear hi)
        refine hK.out _ _ ⟨(upc_ HB.out b7 :), (upc_ HB.out b6 :), (upc_ HB.out b5 :), (upc_ HB.out b4 :), (upc_ HB.out b3 :), (upc_ HB.out c9 :), (upc_ HB.out c7 :), (upc_ HB.out c2 :), (upc_ HB.out b9 :), (upc_ HB.out b8 :)⟩ (fun hHeld => ?_)
        clear hK K
        refine norm_ (a' := ?_) ?_ ?_
        rotate_left
        ·
         show Act.put _ (some 25) _ = _
         simp only [Act.put, List.setIfInBounds_toArray, List.set_cons_zero, List.set_cons_succ, i64_w, i32_w]
         rfl
        refine pz_ 9 26 q54_10 HT_ (by kernel_rfl) ?_
        refine done_ (done_of HT_.out (by kernel_rfl)) ?_
        try go_wp2
        go_roundg k1
        case measure => have := HK1.out; omega
        case rel => exact ⟨(wrap64 (a2 + 1)), (by first | rfl | (simp; done) | (simp [*]; done)), H', ⟨by have := HK1.out; omega⟩, ⟨upH HB.out⟩⟩
       ·
        replace c8 := Bool.eq_false_iff.mpr c8
        subst c8
        rw [if_neg (show ¬ (false = true) by decide)] at H
        obtain rfl := Option.some.inj H
        try go_wp2
        replace HB := Aside0.mk (below_drew1 HB.out); have p101 : 0 ≤ (a2 : Int) := of_decide_eq_true (by assumption); have q101 : a2 < (l0.length : Int) := of_decide_eq_true (by assumption); obtain ⟨ad101, d0, a3, a4, a5, a6, a7⟩ := at_T23 HR0.out a2 p101 q101; have b3 := a7; have b4 := a6; have b5 := a5; have b6 := a4; have b7 := a3
        cases d0
        replace a3 := (upc_ HB.out a3 :); replace a4 := (upc_ HB.out a4 :); replace a5 := (upc_ HB.out a5 :); replace a6 := (upc_ HB.out a6 :); replace a7 := (upc_ HB.out a7 :); replace p101 := eq_true p101; replace q101 := eq_true q101; have p102 : 0 ≤ (a2 : Int) := of_decide_eq_true (by assumption); have q102 : a2 < (l1.length : Int) := of_decide_eq_true (by assumption); obtain ⟨ad102, d1, a8, a9, b0, b1, b2⟩ := at_T23 HR1.out a2 p102 q102; have b8 := b2; have b9 := b1; have c2 := b0; have c7 := a9; have c9 := a8
        cases d1
        replace a8 := (upc_ HB.out a8 :); replace a9 := (upc_ HB.out a9 :); replace b0 := (upc_ HB.out b0 :); replace b1 := (upc_ HB.out b1 :); replace b2 := (upc_ HB.out b2 :); replace p102 := eq_true p102; replace q102 := eq_true q102
        refine start_ (n := 10) (S := fun w' => w'.cell? (ad101.add ((a2).toNat * 5)) = some (.int .i64 ((yaa l0 a2).f0)) ∧ w'.cell? ⟨(ad101.add ((a2).toNat * 5)).block, (ad101.add ((a2).toNat * 5)).off + 1, none⟩ = some (.int .i64 ((yaa l0 a2).f1)) ∧ w'.cell? ⟨(ad101.add ((a2).toNat * 5)).block, (ad101.add ((a2).toNat * 5)).off + 2, none⟩ = some (.int .i64 ((yaa l0 a2).f2)) ∧ w'.cell? ⟨(ad101.add ((a2).toNat * 5)).block, (ad101.add ((a2).toNat * 5)).off + 3, none⟩ = some (.int .i64 ((yaa l0 a2).f3)) ∧ w'.cell? ⟨(ad101.add ((a2).toNat * 5)).block, (ad101.add ((a2).toNat * 5)).off + 4, none⟩ = some (.int .i64 ((yaa l0 a2).f4)) ∧ w'.cell? (ad102.add ((a2).toNat * 5)) = some (.int .i64 ((yaa l1 a2).f0)) ∧ w'.cell? ⟨(ad102.add ((a2).toNat * 5)).block, (ad102.add ((a2).toNat * 5)).off + 1, none⟩ = some (.int .i64 ((yaa l1 a2).f1)) ∧ w'.cell? ⟨(ad102.add ((a2).toNat * 5)).block, (ad102.add ((a2).toNat * 5)).off + 2, none⟩ = some (.int .i64 ((yaa l1 a2).f2)) ∧ w'.cell? ⟨(ad102.add ((a2).toNat * 5)).block, (ad102.add ((a2).toNat * 5)).off + 3, none⟩ = some (.int .i64 ((yaa l1 a2).f3)) ∧ w'.cell? ⟨(ad102.add ((a2).toNat * 5)).block, (ad102.add ((a2).toNat * 5)).off + 4, none⟩ = some (.int .i64 ((yaa l1 a2).f4))) (ds := []) q54_0 (by kernel_rfl) rfl rfl ⟨(upc_ HB.out b7 :), (upc_ HB.out b6 :), (upc_ HB.out b5 :), (upc_ HB.out b4 :), (upc_ HB.out b3 :), (upc_ HB.out c9 :), (upc_ HB.out c7 :), (upc_ HB.out c2 :), (upc_ HB.out b9 :), (upc_ HB.out b8 :)⟩ (fun hHeld => ?_); refine with_tabW laws_eqOpOpS.tab6 laws_eqOpOpS.bits6 (fun HT_ HW_ => ?_)
        generalize wr.drew = w11 at HB a3 a4 a5 a6 a7 a8 a9 b0 b1 b2 hHeld ⊢
        refine pz_ 0 17 q54_1 HT_ (by kernel_rfl) ?_
        refine pz_ 1 18 q54_2 HT_ (by kernel_rfl) ?_
        refine pz_ 2 19 q54_3 HT_ (by kernel_rfl) ?_
        refine pz_ 4 21 q54_4 HT_ (by kernel_rfl) ?_
        refine pz_ 5 22 q54_5 HT_ (by kernel_rfl) ?_
        refine pz_ 6 23 q54_6 HT_ (by kernel_rfl) ?_
        refine tz_ 3 20 q54_7 HT_ HW_ (by kernel_rfl) hHeld ?_
        refine tz_ 7 24 q54_8 HT_ HW_ (by kernel_rfl) hHeld ?_
        refine one_ (i := 8) (N := some 25) q54_9 rfl rfl (one_of HT_.out (by kernel_rfl)) (by decide) (fun K hK => ?_)
        refine goes_ Tryd.func9 (by kernel_rfl) rfl #[.agg #[.int .i64 ((yaa l0 a2).f0), .int .i64 ((yaa l0 a2).f1), .int .i64 ((yaa l0 a2).f2), .int .i64 ((yaa l0 a2).f3), .int .i64 ((yaa l0 a2).f4)], .agg #[.int .i64 ((yaa l1 a2).f0), .int .i64 ((yaa l1 a2).f1), .int .i64 ((yaa l1 a2).f2), .int .i64 ((yaa l1 a2).f3), .int .i64 ((yaa l1 a2).f4)]] (by rfl) rfl rfl (by (try simp only [List.map_toArray, List.map_cons, List.map_nil]); first | done | rfl | (simp only [List.length_drop, List.length_take]; rfl)) ?_
        with_reducible refine (laws_eqOpOp.calls ((yaa l0 a2).f0) ((yaa l0 a2).f1) ((yaa l0 a2).f2) ((yaa l0 a2).f3) ((yaa l0 a2).f4) ((yaa l1 a2).f0) ((yaa l1 a2).f1) ((yaa l1 a2).f2) ((yaa l1 a2).f3) ((yaa l1 a2).f4) false _ A7.out).mono ?_
        rintro e w12 ⟨rfl, hb⟩; refine ⟨_, rfl, ?_⟩; replace HB := Aside0.mk (below_step (upH HB.out) hb); (try clear hb); (try clear hb2); (try clear hk); (try clear hi)
        refine hK.out _ _ ⟨(upc_ HB.out b7 :), (upc_ HB.out b6 :), (upc_ HB.out b5 :), (upc_ HB.out b4 :), (upc_ HB.out b3 :), (upc_ HB.out c9 :), (upc_ HB.out c7 :), (upc_ HB.out c2 :), (upc_ HB.out b9 :), (upc_ HB.out b8 :)⟩ (fun hHeld => ?_)
        clear hK K
        refine norm_ (a' := ?_) ?_ ?_
        rotate_left
        ·
         show Act.put _ (some 25) _ = _
         simp only [Act.put, List.setIfInBounds_toArray, List.set_cons_zero, List.set_cons_succ, i64_w, i32_w]
         rfl
        refine pz_ 9 26 q54_10 HT_ (by kernel_rfl) ?_
        refine done_ (done_of HT_.out (by kernel_rfl)) ?_
        try go_wp2
        go_ret
        exact ⟨by first | rfl | (simp [*, errW_none, errW_some] <;> rfl), upH HB.out⟩
      ·
       rw [if_neg c6] at H
       exact absurd H (by simp)
     ·
      rw [if_neg c5] at H
      exact absurd H (by simp)
    ·
     rw [if_neg c4] at H
     have d5 : decide (a2 < (l0.length : Int)) = false := decide_eq_false c4; clear c4; obtain rfl := Option.some.inj H
     go_wp2
     go_ret
     exact ⟨by first | rfl | (simp [*, errW_none, errW_some] <;> rfl), upH HB.out⟩
 ·
  rw [if_neg c3] at H
  have d2 := beq_eq_false_iff_ne.mpr c3; have d3 := bne_iff_ne.mpr c3
  have d4 : (l0.length == l1.length) = false := by first | simpa using c3 | (simp at c3 ⊢; omega)
  obtain rfl := Option.some.inj H
  go_enter Tryd.func54, Tryd.ntmps54
  go_wp2
  go_ret
  exact ⟨by first | rfl | (simp [*, errW_none, errW_some] <;> rfl), upH HB.out⟩
end
section
open Go.Proofs.YtfafjpfigphchaaDoorW.PrintWords.Aside0 renaming mk → yaa
open Go.Proofs.YtfafjpfigphchaaDoorW.PrintWords renaming pw_below_drewN → yab, below_alloc → yac, below_drew1 → yad

def laws_eqUrlAsk.f (k : Nat) (l0_0 : List (S23)) (a0_1 : ByteArray) (a0_2 : Int) (l1_0 : List (S23)) (a1_1 : ByteArray) (a1_2 : Int) : Option (Bool) := (laws_eqOpOpS.f k l0_0 l1_0).bind fun t103 => (if t103 = true then (if a0_1.toList = a1_1.toList then (if a0_2 = a1_2 then (some true) else (some false)) else (some false)) else (some false))
set_option maxHeartbeats 8000000 in
set_option maxRecDepth 100000 in
theorem laws_eqUrlAsk.calls (k : Nat) (A0_0 : Option Addr) (c0_0 : Nat) (l0_0 : List (S23)) (a0_1 : ByteArray) (a0_2 : Int) (A1_0 : Option Addr) (c1_0 : Nat) (l1_0 : List (S23)) (a1_1 : ByteArray) (a1_2 : Int) (r : Bool) (w : World) (hr0_0 : Kd.C k23 w A0_0 l0_0.length l0_0) (hc0_0 : l0_0.length ≤ c0_0) (hr1_0 : Kd.C k23 w A1_0 l1_0.length l1_0) (hc1_0 : l1_0.length ≤ c1_0) (h : laws_eqUrlAsk.f k l0_0 a0_1 a0_2 l1_0 a1_1 a1_2 = some r) :
  Calls Tryd.prog 19 #[.agg #[.slice A0_0 l0_0.length c0_0, .string a0_1, .int .i64 a0_2], .agg #[.slice A1_0 l1_0.length c1_0, .string a1_1, .int .i64 a1_2]] w fun e w' => e = .returned (.bool r) ∧ Below w.heap.size w w' := by
 have hu37 := Tryd.underlying37; have HR0_0 := yaa hr0_0; have HC0_0 := yaa hc0_0; clear hr0_0 hc0_0; have HR1_0 := yaa hr1_0; have HC1_0 := yaa hc1_0; clear hr1_0 hc1_0; have HB := yaa (Below.refl w.heap.size w); have H : ((laws_eqOpOpS.f k l0_0 l1_0).bind fun b9 => (if b9 = true then (if a0_1.toList = a1_1.toList then (if a0_2 = a1_2 then (some true) else (some false)) else (some false)) else (some false))) = some r := h; clear h; obtain ⟨b9, A3, H⟩ := bindA H; (try dsimp only at H)
 by_cases c4 : b9 = true
 ·
  subst c4
  rw [if_pos rfl] at H
  by_cases c5 : a0_1.toList = a1_1.toList
  ·
   rw [if_pos c5] at H
   have k7 := beq_iff_eq.mpr c5; have k8 := bne_eq_false_iff_eq.mpr c5; clear c5
   by_cases c6 : a0_2 = a1_2
   ·
    rw [if_pos c6] at H
    have k9 := beq_iff_eq.mpr c6; have l0 := bne_eq_false_iff_eq.mpr c6; clear c6; obtain rfl := Option.some.inj H
    go_enter Tryd.func19, Tryd.ntmps19
    go_wp2_with (first | ((with_reducible refine gd_ 2 rfl ?_); refine bx_ 2 rfl #[.slice A0_0 l0_0.length c0_0, .string a0_1, .int .i64 a0_2] 37 ?_; intro b0 hg w7 hbox hb; have a6 := yaa (hbox); have b3 := yaa ((by rw [hg]; exact (below_size (upH HB.out)) : w.heap.size ≤ b0)); replace HB := yaa (below_step (upH HB.out) hb); have b7 := b3; clear hb hbox hg) | ((with_reducible refine gd_ 3 rfl ?_); refine bx_ 3 rfl #[.slice A1_0 l1_0.length c1_0, .string a1_1, .int .i64 a1_2] 37 ?_; intro b1 hg w8 hbox hb; have a7 := yaa (hbox); have b4 := yaa ((by rw [hg]; exact (below_size (by repeat (with_reducible first | exact HB.out | apply yac | apply yab | apply yad | refine below_set ?_ (Aside0.out ‹_›)))) : w.heap.size ≤ b1)); replace HB := yaa (below_step (by repeat (with_reducible first | exact HB.out | apply yac | apply yab | apply yad | refine below_set ?_ (Aside0.out ‹_›))) hb); have b8 := b4; have a8 := yaa ((by rw [hg]; exact Nat.ne_of_lt (blk_lt (upB a6.out)) : b0 ≠ b1)); replace a6 := yaa (blk_below (upB a6.out) hb); have a9 := yaa a8.out.symm; clear hb hbox hg; have l7 := a8.out; have l8 := a9.out; obtain ⟨c0, c1, c2⟩ := cc3_ a6.out; obtain ⟨c3, c7, c8⟩ := cf3_ a6.out; obtain ⟨c9, d0, d1⟩ := cc3_ a7.out; obtain ⟨d2, d3⟩ := cf2_ a7.out; have d4 := blk_frozen a7.out 2) | ((with_reducible refine gc_ 54 rfl ?_); refine gl_ (some 9) rfl Tryd.func54 #[.slice A0_0 l0_0.length c0_0, .slice A1_0 l1_0.length c1_0] ?_; (with_reducible refine (laws_eqOpOpS.calls k _ _ l0_0 _ _ l1_0 true _ ?side1 ?side2 ?side3 ?side4 A3.out).mono ?_); (case side1 => repeat (first | exact (Kd.C_below HR0_0.out HB.out) | (with_reducible refine Kd.C_alloc ?_ _) | (with_reducible refine Kd.C_drewN ?_ _) | (with_reducible refine Kd.C_drew ?_))); (case side2 => exact HC0_0.out); (case side3 => repeat (first | exact (Kd.C_below HR1_0.out HB.out) | (with_reducible refine Kd.C_alloc ?_ _) | (with_reducible refine Kd.C_drewN ?_ _) | (with_reducible refine Kd.C_drew ?_))); (case side4 => exact HC1_0.out); rintro e w12 ⟨rfl, hb⟩; refine ⟨_, rfl, ?_⟩; replace a6 := yaa (blk_below (upB a6.out) hb); replace a7 := yaa (blk_below (upB a7.out) hb); replace HB := yaa (below_step (by repeat (with_reducible first | exact HB.out | apply yac | apply yab | apply yad | refine below_set ?_ (Aside0.out ‹_›))) hb); (try clear hb); obtain ⟨d5, d6, d7⟩ := cc3_ a6.out; obtain ⟨d8, d9, e0⟩ := cf3_ a6.out; obtain ⟨e1, e2, e3⟩ := cc3_ a7.out; obtain ⟨e4, e5⟩ := cf2_ a7.out; have e6 := blk_frozen a7.out 2))
    go_ret
    exact ⟨by first | rfl | (simp [*, errW_none, errW_some] <;> rfl), by repeat (with_reducible first | exact HB.out | apply yac | apply yab | apply yad | refine below_set ?_ (Aside0.out ‹_›))⟩
   ·
    rw [if_neg c6] at H
    have k9 := beq_eq_false_iff_ne.mpr c6; have l0 := bne_iff_ne.mpr c6; obtain rfl := Option.some.inj H
    go_enter Tryd.func19, Tryd.ntmps19
    go_wp2_with (first | ((with_reducible refine gd_ 2 rfl ?_); refine bx_ 2 rfl #[.slice A0_0 l0_0.length c0_0, .string a0_1, .int .i64 a0_2] 37 ?_; intro b0 hg w15 hbox hb; have a6 := yaa (hbox); have b3 := yaa ((by rw [hg]; exact (below_size (upH HB.out)) : w.heap.size ≤ b0)); replace HB := yaa (below_step (upH HB.out) hb); have b7 := b3; clear hb hbox hg) | ((with_reducible refine gd_ 3 rfl ?_); refine bx_ 3 rfl #[.slice A1_0 l1_0.length c1_0, .string a1_1, .int .i64 a1_2] 37 ?_; intro b1 hg w16 hbox hb; have a7 := yaa (hbox); have b4 := yaa ((by rw [hg]; exact (below_size (by repeat (with_reducible first | exact HB.out | apply yac | apply yab | apply yad | refine below_set ?_ (Aside0.out ‹_›)))) : w.heap.size ≤ b1)); replace HB := yaa (below_step (by repeat (with_reducible first | exact HB.out | apply yac | apply yab | apply yad | refine below_set ?_ (Aside0.out ‹_›))) hb); have b8 := b4; have a8 := yaa ((by rw [hg]; exact Nat.ne_of_lt (blk_lt (upB a6.out)) : b0 ≠ b1)); replace a6 := yaa (blk_below (upB a6.out) hb); have a9 := yaa a8.out.symm; clear hb hbox hg; have l1 := a8.out; have l2 := a9.out; obtain ⟨e7, e8, e9⟩ := cc3_ a6.out; obtain ⟨f0, f1, f2⟩ := cf3_ a6.out; obtain ⟨f3, f4, f5⟩ := cc3_ a7.out; obtain ⟨f6, f7⟩ := cf2_ a7.out; have f8 := blk_frozen a7.out 2) | ((with_reducible refine gc_ 54 rfl ?_); refine gl_ (some 9) rfl Tryd.func54 #[.slice A0_0 l0_0.length c0_0, .slice A1_0 l1_0.length c1_0] ?_; (with_reducible refine (laws_eqOpOpS.calls k _ _ l0_0 _ _ l1_0 true _ ?side1 ?side2 ?side3 ?side4 A3.out).mono ?_); (case side1 => repeat (first | exact (Kd.C_below HR0_0.out HB.out) | (with_reducible refine Kd.C_alloc ?_ _) | (with_reducible refine Kd.C_drewN ?_ _) | (with_reducible refine Kd.C_drew ?_))); (case side2 => exact HC0_0.out); (case side3 => repeat (first | exact (Kd.C_below HR1_0.out HB.out) | (with_reducible refine Kd.C_alloc ?_ _) | (with_reducible refine Kd.C_drewN ?_ _) | (with_reducible refine Kd.C_drew ?_))); (case side4 => exact HC1_0.out); rintro e w20 ⟨rfl, hb⟩; refine ⟨_, rfl, ?_⟩; replace a6 := yaa (blk_below (upB a6.out) hb); replace a7 := yaa (blk_below (upB a7.out) hb); replace HB := yaa (below_step (by repeat (with_reducible first | exact HB.out | apply yac | apply yab | apply yad | refine below_set ?_ (Aside0.out ‹_›))) hb); (try clear hb); obtain ⟨f9, g0, g1⟩ := cc3_ a6.out; obtain ⟨g2, g3, g4⟩ := cf3_ a6.out; obtain ⟨g5, g6, g7⟩ := cc3_ a7.out; obtain ⟨g8, g9⟩ := cf2_ a7.out; have h0 := blk_frozen a7.out 2))
    go_ret
    exact ⟨by first | rfl | (simp [*, errW_none, errW_some] <;> rfl), by repeat (with_reducible first | exact HB.out | apply yac | apply yab | apply yad | refine below_set ?_ (Aside0.out ‹_›))⟩
  ·
   rw [if_neg c5] at H
   have k7 := beq_eq_false_iff_ne.mpr c5; have k8 := bne_iff_ne.mpr c5; obtain rfl := Option.some.inj H
   go_enter Tryd.func19, Tryd.ntmps19
   go_wp2_with (first | ((with_reducible refine gd_ 2 rfl ?_); refine bx_ 2 rfl #[.slice A0_0 l0_0.length c0_0, .string a0_1, .int .i64 a0_2] 37 ?_; intro b0 hg w23 hbox hb; have a6 := yaa (hbox); have b3 := yaa ((by rw [hg]; exact (below_size (upH HB.out)) : w.heap.size ≤ b0)); replace HB := yaa (below_step (upH HB.out) hb); have b7 := b3; clear hb hbox hg) | ((with_reducible refine gd_ 3 rfl ?_); refine bx_ 3 rfl #[.slice A1_0 l1_0.length c1_0, .string a1_1, .int .i64 a1_2] 37 ?_; intro b1 hg w24 hbox hb; have a7 := yaa (hbox); have b4 := yaa ((by rw [hg]; exact (below_size (by repeat (with_reducible first | exact HB.out | apply yac | apply yab | apply yad | refine below_set ?_ (Aside0.out ‹_›)))) : w.heap.size ≤ b1)); replace HB := yaa (below_step (by repeat (with_reducible first | exact HB.out | apply yac | apply yab | apply yad | refine below_set ?_ (Aside0.out ‹_›))) hb); have b8 := b4; have a8 := yaa ((by rw [hg]; exact Nat.ne_of_lt (blk_lt (upB a6.out)) : b0 ≠ b1)); replace a6 := yaa (blk_below (upB a6.out) hb); have a9 := yaa a8.out.symm; clear hb hbox hg; have l3 := a8.out; have l4 := a9.out; obtain ⟨h1, h2, h3⟩ := cc3_ a6.out; obtain ⟨h4, h5, h6⟩ := cf3_ a6.out; obtain ⟨h7, h8, h9⟩ := cc3_ a7.out; obtain ⟨i0, i1⟩ := cf2_ a7.out; have i2 := blk_frozen a7.out 2) | ((with_reducible refine gc_ 54 rfl ?_); refine gl_ (some 9) rfl Tryd.func54 #[.slice A0_0 l0_0.length c0_0, .slice A1_0 l1_0.length c1_0] ?_; (with_reducible refine (laws_eqOpOpS.calls k _ _ l0_0 _ _ l1_0 true _ ?side1 ?side2 ?side3 ?side4 A3.out).mono ?_); (case side1 => repeat (first | exact (Kd.C_below HR0_0.out HB.out) | (with_reducible refine Kd.C_alloc ?_ _) | (with_reducible refine Kd.C_drewN ?_ _) | (with_reducible refine Kd.C_drew ?_))); (case side2 => exact HC0_0.out); (case side3 => repeat (first | exact (Kd.C_below HR1_0.out HB.out) | (with_reducible refine Kd.C_alloc ?_ _) | (with_reducible refine Kd.C_drewN ?_ _) | (with_reducible refine Kd.C_drew ?_))); (case side4 => exact HC1_0.out); rintro e w28 ⟨rfl, hb⟩; refine ⟨_, rfl, ?_⟩; replace a6 := yaa (blk_below (upB a6.out) hb); replace a7 := yaa (blk_below (upB a7.out) hb); replace HB := yaa (below_step (by repeat (with_reducible first | exact HB.out | apply yac | apply yab | apply yad | refine below_set ?_ (Aside0.out ‹_›))) hb); (try clear hb); obtain ⟨i3, i4, i5⟩ := cc3_ a6.out; obtain ⟨i6, i7, i8⟩ := cf3_ a6.out; obtain ⟨i9, j0, j1⟩ := cc3_ a7.out; obtain ⟨j2, j3⟩ := cf2_ a7.out; have j4 := blk_frozen a7.out 2))
   go_ret
   exact ⟨by first | rfl | (simp [*, errW_none, errW_some] <;> rfl), by repeat (with_reducible first | exact HB.out | apply yac | apply yab | apply yad | refine below_set ?_ (Aside0.out ‹_›))⟩
 ·
  replace c4 := Bool.eq_false_iff.mpr c4
  subst c4
  rw [if_neg (show ¬ (false = true) by decide)] at H
  obtain rfl := Option.some.inj H
  go_enter Tryd.func19, Tryd.ntmps19
  go_wp2_with (first | ((with_reducible refine gd_ 2 rfl ?_); refine bx_ 2 rfl #[.slice A0_0 l0_0.length c0_0, .string a0_1, .int .i64 a0_2] 37 ?_; intro b0 hg w31 hbox hb; have a6 := yaa (hbox); have b3 := yaa ((by rw [hg]; exact (below_size (upH HB.out)) : w.heap.size ≤ b0)); replace HB := yaa (below_step (upH HB.out) hb); have b7 := b3; clear hb hbox hg) | ((with_reducible refine gd_ 3 rfl ?_); refine bx_ 3 rfl #[.slice A1_0 l1_0.length c1_0, .string a1_1, .int .i64 a1_2] 37 ?_; intro b1 hg w32 hbox hb; have a7 := yaa (hbox); have b4 := yaa ((by rw [hg]; exact (below_size (by repeat (with_reducible first | exact HB.out | apply yac | apply yab | apply yad | refine below_set ?_ (Aside0.out ‹_›)))) : w.heap.size ≤ b1)); replace HB := yaa (below_step (by repeat (with_reducible first | exact HB.out | apply yac | apply yab | apply yad | refine below_set ?_ (Aside0.out ‹_›))) hb); have b8 := b4; have a8 := yaa ((by rw [hg]; exact Nat.ne_of_lt (blk_lt (upB a6.out)) : b0 ≠ b1)); replace a6 := yaa (blk_below (upB a6.out) hb); have a9 := yaa a8.out.symm; clear hb hbox hg; have l5 := a8.out; have l6 := a9.out; obtain ⟨j5, j6, j7⟩ := cc3_ a6.out; obtain ⟨j8, j9, k0⟩ := cf3_ a6.out; obtain ⟨k1, k2, k3⟩ := cc3_ a7.out; obtain ⟨k4, k5⟩ := cf2_ a7.out; have k6 := blk_frozen a7.out 2) | ((with_reducible refine gc_ 54 rfl ?_); refine gl_ (some 9) rfl Tryd.func54 #[.slice A0_0 l0_0.length c0_0, .slice A1_0 l1_0.length c1_0] ?_; (with_reducible refine (laws_eqOpOpS.calls k _ _ l0_0 _ _ l1_0 false _ ?side1 ?side2 ?side3 ?side4 A3.out).mono ?_); (case side1 => repeat (first | exact (Kd.C_below HR0_0.out HB.out) | (with_reducible refine Kd.C_alloc ?_ _) | (with_reducible refine Kd.C_drewN ?_ _) | (with_reducible refine Kd.C_drew ?_))); (case side2 => exact HC0_0.out); (case side3 => repeat (first | exact (Kd.C_below HR1_0.out HB.out) | (with_reducible refine Kd.C_alloc ?_ _) | (with_reducible refine Kd.C_drewN ?_ _) | (with_reducible refine Kd.C_drew ?_))); (case side4 => exact HC1_0.out); rintro e w36 ⟨rfl, hb⟩; refine ⟨_, rfl, ?_⟩; replace a6 := yaa (blk_below (upB a6.out) hb); replace a7 := yaa (blk_below (upB a7.out) hb); replace HB := yaa (below_step (by repeat (with_reducible first | exact HB.out | apply yac | apply yab | apply yad | refine below_set ?_ (Aside0.out ‹_›))) hb); (try clear hb)))
  go_ret
  exact ⟨by first | rfl | (simp [*, errW_none, errW_some] <;> rfl), by repeat (with_reducible first | exact HB.out | apply yac | apply yab | apply yad | refine below_set ?_ (Aside0.out ‹_›))⟩
end
section
open Go.Proofs.YtfafjpfigphchaaDoor.X renaming rd_T23 → yaa
open Go.Proofs.YtfafjpfigphchaaDoorW.PrintWords.Aside0 renaming mk → yab

def laws_markOpOpS.l0 : Nat → List (S23) → Int → Int → Option (Int × (List (S23)))
 | 0, _, _, _ => none
 | k + 1, x0, x1, x5 => if x5 < (x0.length : Int) then (if 0 ≤ x5 then ((some (x0.set (x5 : Int).toNat (⟨x1, (rd_T23 x0 x5).f1, (rd_T23 x0 x5).f2, (rd_T23 x0 x5).f3, (rd_T23 x0 x5).f4⟩ : S23) : List (S23))).bind fun y101 => ((some (y101.set (x5 : Int).toNat (⟨(rd_T23 y101 x5).f0, wrap64 (x1 + 1), (rd_T23 y101 x5).f2, (rd_T23 y101 x5).f3, (rd_T23 y101 x5).f4⟩ : S23) : List (S23))).bind fun y102 => ((some (y102.set (x5 : Int).toNat (⟨(rd_T23 y102 x5).f0, (rd_T23 y102 x5).f1, wrap64 ((wrap64 (x1 + 1)) + 1), (rd_T23 y102 x5).f3, (rd_T23 y102 x5).f4⟩ : S23) : List (S23))).bind fun y103 => ((some (y103.set (x5 : Int).toNat (⟨(rd_T23 y103 x5).f0, (rd_T23 y103 x5).f1, (rd_T23 y103 x5).f2, wrap64 ((wrap64 ((wrap64 (x1 + 1)) + 1)) + 1), (rd_T23 y103 x5).f4⟩ : S23) : List (S23))).bind fun y104 => (laws_markOpOpS.l0 k (y104.set (x5 : Int).toNat (⟨(rd_T23 y104 x5).f0, (rd_T23 y104 x5).f1, (rd_T23 y104 x5).f2, (rd_T23 y104 x5).f3, wrap64 ((wrap64 ((wrap64 ((wrap64 (x1 + 1)) + 1)) + 1)) + 1)⟩ : S23)) (wrap64 ((wrap64 ((wrap64 ((wrap64 ((wrap64 (x1 + 1)) + 1)) + 1)) + 1)) + 1)) (wrap64 (x5 + 1))))))) else (none)) else (some (x1, x0))
def laws_markOpOpS.f (k : Nat) (l0 : List (S23)) (a1 : Int) : Option (Int × (List (S23))) := laws_markOpOpS.l0 k l0 a1 0
set_option maxHeartbeats 8000000 in
set_option maxRecDepth 100000 in
theorem laws_markOpOpS.calls (k : Nat) (P0_ : Nat → Prop) (u9000_ : Value) (l0 : List (S23)) (a1 : Int) (r1 : Int) (r2 : List (S23)) (w0 w : World) (hB : Below w0.heap.size w0 w) (ho0 : Kd.R k23 23 w w0.heap.size P0_ u9000_ l0) (h : laws_markOpOpS.f k l0 a1 = some (r1, r2)) :
  Calls Tryd.prog 55 #[u9000_, .int .i64 a1] w fun e w' => e = .returned (.int .i64 r1) ∧ Kd.R k23 23 w' w0.heap.size (fun k_ => (P0_ k_ ∨ w.heap.size ≤ k_)) u9000_ r2 ∧ Below w0.heap.size w0 w' ∧ Kept w w' (fun k_ => P0_ k_) := by
 have HO0 := yab (show Kd.R k23 23 w w0.heap.size (fun k_ => (P0_ k_ ∨ w.heap.size ≤ k_)) u9000_ l0 from Kd.R_mono ho0 (fun k_ hk => (.inl hk))); have HK := yab (Kept.refl w (fun k_ => P0_ k_)); have HW0 := yab hB.size; have HB := yab hB; clear hB; have H : (laws_markOpOpS.l0 k l0 a1 0) = some (r1, r2) := h; clear h; have H' := yab H; clear H
 go_enter Tryd.func55, Tryd.ntmps55
 go_wp2
 (try simp only [Act.put, List.setIfInBounds_toArray, List.set_cons_zero, List.set_cons_succ])
 go_loopg [1, 5] k (fun kq v1 v5 w' => ∃ (a3 : List (S23)) (a5 : Int) (a2 : Int), v1 = .int .i64 a5 ∧ v5 = .int .i64 a2 ∧ Aside0 (laws_markOpOpS.l0 kq a3 a5 a2 = some (r1, r2)) ∧ Aside0 (kq ≤ k) ∧ Aside0 (Kd.R k23 23 w' w0.heap.size (fun k_ => (P0_ k_ ∨ w.heap.size ≤ k_)) u9000_ a3) ∧ Aside0 (Kept w w' (fun k_ => P0_ k_)) ∧ Aside0 (Below w0.heap.size w0 w'))
 case atStart => exact ⟨(l0), (a1), (0), (by first | rfl | (simp; done) | (simp [*]; done)), (by first | rfl | (simp; done) | (simp [*]; done)), H', ⟨Nat.le_refl _⟩, ⟨by first | exact HO0.out | exact upR HO0.out⟩, ⟨by repeat (with_reducible first | exact HK.out | apply Kept.alloc | apply Kept.drewN | apply Kept.drew)⟩, ⟨upH HB.out⟩⟩
 case round =>
  clear H'; (try clear p2); obtain ⟨a3, a5, a2, rfl, rfl, HA, HK1, a4, HK, HB⟩ := hrel
  cases gk with
  | zero => exact absurd HA.out (by simp [laws_markOpOpS.l0])
  | succ k1 =>
   have H := HA.out; clear HA
   simp only [laws_markOpOpS.l0] at H
   by_cases c3 : a2 < (a3.length : Int)
   ·
    rw [if_pos c3] at H
    have b2 : decide (a2 < (a3.length : Int)) = true := decide_eq_true c3; clear c3
    by_cases c4 : 0 ≤ a2
    ·
     rw [if_pos c4] at H
     replace c4 := decide_eq_true c4; obtain ⟨y101, hy101⟩ : ∃ y_ : List (S23), y_ = (a3.set (a2 : Int).toNat (⟨a5, (yaa a3 a2).f1, (yaa a3 a2).f2, (yaa a3 a2).f3, (yaa a3 a2).f4⟩ : S23)) := ⟨_, rfl⟩
     replace H : ((some (y101.set (a2 : Int).toNat (⟨(yaa y101 a2).f0, wrap64 (a5 + 1), (yaa y101 a2).f2, (yaa y101 a2).f3, (yaa y101 a2).f4⟩ : S23) : List (S23))).bind fun y102 => ((some (y102.set (a2 : Int).toNat (⟨(yaa y102 a2).f0, (yaa y102 a2).f1, wrap64 ((wrap64 (a5 + 1)) + 1), (yaa y102 a2).f3, (yaa y102 a2).f4⟩ : S23) : List (S23))).bind fun y103 => ((some (y103.set (a2 : Int).toNat (⟨(yaa y103 a2).f0, (yaa y103 a2).f1, (yaa y103 a2).f2, wrap64 ((wrap64 ((wrap64 (a5 + 1)) + 1)) + 1), (yaa y103 a2).f4⟩ : S23) : List (S23))).bind fun y104 => (laws_markOpOpS.l0 k1 (y104.set (a2 : Int).toNat (⟨(yaa y104 a2).f0, (yaa y104 a2).f1, (yaa y104 a2).f2, (yaa y104 a2).f3, wrap64 ((wrap64 ((wrap64 ((wrap64 (a5 + 1)) + 1)) + 1)) + 1)⟩ : S23)) (wrap64 ((wrap64 ((wrap64 ((wrap64 ((wrap64 (a5 + 1)) + 1)) + 1)) + 1)) + 1)) (wrap64 (a2 + 1)))))) = some (r1, r2) := by first | (rw [hy101]; with_reducible exact H) | (have H2_ := (Option.bind_some _ _).symm.trans H; rw [hy101]; with_reducible exact H2_) | (have H2_ := (Option.bind_some _ _).symm.trans H; with_reducible exact H2_) | with_reducible exact H | (rw [hy101]; exact H) | exact H
     have Ny101 := yab hy101; clear hy101; obtain ⟨y102, hy102, H⟩ := bindY H; (try dsimp only at H); have Ny102 := yab hy102; clear hy102; obtain ⟨y103, hy103, H⟩ := bindY H; (try dsimp only at H); have Ny103 := yab hy103; clear hy103; obtain ⟨y104, hy104, H⟩ := bindY H; (try dsimp only at H); have Ny104 := yab hy104; clear hy104; obtain ⟨y105, hy105⟩ : ∃ y_ : List (S23), y_ = (y104.set (a2 : Int).toNat (⟨(yaa y104 a2).f0, (yaa y104 a2).f1, (yaa y104 a2).f2, (yaa y104 a2).f3, wrap64 ((wrap64 ((wrap64 ((wrap64 (a5 + 1)) + 1)) + 1)) + 1)⟩ : S23)) := ⟨_, rfl⟩
     replace H : (laws_markOpOpS.l0 k1 y105 (wrap64 ((wrap64 ((wrap64 ((wrap64 ((wrap64 (a5 + 1)) + 1)) + 1)) + 1)) + 1)) (wrap64 (a2 + 1))) = some (r1, r2) := by first | (rw [hy105]; with_reducible exact H) | (have H2_ := (Option.bind_some _ _).symm.trans H; rw [hy105]; with_reducible exact H2_) | (have H2_ := (Option.bind_some _ _).symm.trans H; with_reducible exact H2_) | with_reducible exact H | (rw [hy105]; exact H) | exact H
     have Ny105 := yab hy105; clear hy105; have H' := yab H; clear H; obtain ⟨e2, a6, b3⟩ := Kd.R_slice a4.out; subst b3; have p5 : 0 ≤ (a2 : Int) := of_decide_eq_true (by assumption); have q5 : (a2 : Int) < ((a3.length : Int) : Int) := of_decide_eq_true (by assumption); obtain ⟨go5, co5, eo5, gb5, gl5, cl5, HG5⟩ := Kd.R_form a4.out (by omega)
     (first | cases eo5 | (injection eo5 with ea_ en_ ec_; (first | subst ea_ | (injection ea_ with ea_; subst ea_)); subst ec_; clear en_))
     have GB5 := yab gb5; have GG5 := yab HG5; clear gb5 gl5 HG5; have HMgo5 := yab (show (P0_ go5 ∨ w.heap.size ≤ go5) from (a4.out.1 _ rfl)); obtain ⟨ce5, hcl5, hM5, hcc5, hfr5⟩ := Kd.R_elem a4.out z23 (a2 : Int) p5 q5; obtain rfl := k23_openM hM5; have b5 : wr.cell? ⟨go5, (a2 : Int).toNat * 5, none⟩ = some (.int .i64 ((yaa a3 a2).f0)) := hcc5 0 _ rfl; have b6 : wr.cell? ⟨go5, (a2 : Int).toNat * 5 + 1, none⟩ = some (.int .i64 ((yaa a3 a2).f1)) := hcc5 1 _ rfl; have b7 : wr.cell? ⟨go5, (a2 : Int).toNat * 5 + 2, none⟩ = some (.int .i64 ((yaa a3 a2).f2)) := hcc5 2 _ rfl; have b8 : wr.cell? ⟨go5, (a2 : Int).toNat * 5 + 3, none⟩ = some (.int .i64 ((yaa a3 a2).f3)) := hcc5 3 _ rfl; have b9 : wr.cell? ⟨go5, (a2 : Int).toNat * 5 + 4, none⟩ = some (.int .i64 ((yaa a3 a2).f4)) := hcc5 4 _ rfl; have hf5_0 : wr.frozen? ⟨go5, (a2 : Int).toNat * 5, none⟩ = false := hfr5 0; have hf5_1 : wr.frozen? ⟨go5, (a2 : Int).toNat * 5 + 1, none⟩ = false := hfr5 1; have hf5_2 : wr.frozen? ⟨go5, (a2 : Int).toNat * 5 + 2, none⟩ = false := hfr5 2; have hf5_3 : wr.frozen? ⟨go5, (a2 : Int).toNat * 5 + 3, none⟩ = false := hfr5 3; have hf5_4 : wr.frozen? ⟨go5, (a2 : Int).toNat * 5 + 4, none⟩ = false := hfr5 4; clear hcl5 hcc5 hfr5 hM5; replace p5 := eq_true p5; replace q5 := eq_true q5; have HX11 := yab (show Kd.R k23 23 wr w0.heap.size (fun k_ => (P0_ k_ ∨ w.heap.size ≤ k_)) (.slice (some ⟨go5, 0, none⟩) a3.length a6) a3 from (upR a4.out))
     obtain ⟨e3, hcl11, hM11, hcc11, hfr11⟩ := Kd.R_elem HX11.out z23 (a2 : Int) (of_decide_eq_true (by assumption)) (by have h_ : (a2 : Int) < ((a3.length : Int) : Int) := of_decide_eq_true (by assumption); first | exact h_ | (have e_ := (Kd.R_reads' a4.out).1; omega) | simpa using h_)
     obtain rfl := k23_openM hM11
     have HP11 := Kd.R_seg HX11.out (a2 : Int) (of_decide_eq_true (by assumption)) (by have h_ : (a2 : Int) < ((a3.length : Int) : Int) := of_decide_eq_true (by assumption); first | exact h_ | (have e_ := (Kd.R_reads' a4.out).1; omega) | simpa using h_) (seg := [.int .i64 a5]) (j := 0) hcl11 hcc11 (show 1 ≤ 5 from by decide) (x' := (⟨a5, (yaa a3 a2).f1, (yaa a3 a2).f2, (yaa a3 a2).f3, (yaa a3 a2).f4⟩ : S23)) (k23_mkM _ _ _ (⟨a5, (yaa a3 a2).f1, (yaa a3 a2).f2, (yaa a3 a2).f3, (yaa a3 a2).f4⟩ : S23) ) (fun _ hk => hk)
     have a7 := hcc11 0 _ rfl
     (try simp only [show (k23).sz = 5 from rfl, Nat.mul_one, Nat.add_zero] at a7)
     have hf11_0 := hfr11 0
     (try simp only [show (k23).sz = 5 from rfl, Nat.mul_one, Nat.add_zero] at hf11_0)
     clear hcl11 hcc11 hfr11 hM11
     go_wp2_with (first | ((with_reducible refine gate_store (t := 3) (p := 16) rfl ?_); refine store_event (t := 3) (p := 16) (v := ?vo_w12) (w1 := (wr.setCell ⟨go5, (a2 : Int).toNat * 5, none⟩ (.int .i64 a5))) ?hg ?ho ?hn ?hr ?_; (case ho => rfl); (case hg => rfl); (case hn => rfl); (case hr => first | (go_simp; done) | (go_simp; rfl)); intro w12 hw; have hg : wr.grownBy w12 (some go5) := (by rw [hw]; exact HP11.2); have hp_ : Kd.R k23 23 w12 w0.heap.size (fun k_ => (P0_ k_ ∨ w.heap.size ≤ k_)) (.slice (some ⟨go5, 0, none⟩) a3.length a6) y101 := (by rw [hw, Ny101.out]; exact HP11.1); clear HP11; replace HB := yab ((by rw [hw]; exact below_set (HB.out) GB5.out : Below w0.heap.size w0 w12)); replace HK := yab (Kept.of_grown (S := (fun k_ => P0_ k_)) hg (by repeat (with_reducible first | exact HK.out | apply Kept.alloc | apply Kept.drewN | apply Kept.drew)) (fun k_ e_ => (a4.out.1 k_ e_))); replace a4 := yab (hp_); clear hg hw hp_; have p6 : 0 ≤ (a2 : Int) := of_decide_eq_true (by assumption); have q6 : (a2 : Int) < ((a3.length : Int) : Int) := of_decide_eq_true (by assumption); obtain ⟨ce6, hcl6, hM6, hcc6, hfr6⟩ := Kd.R_elem a4.out z23 (a2 : Int) p6 q6; obtain rfl := k23_openM hM6; have c0 : w12.cell? ⟨go5, (a2 : Int).toNat * 5, none⟩ = some (.int .i64 ((yaa y101 a2).f0)) := hcc6 0 _ rfl; have c1 : w12.cell? ⟨go5, (a2 : Int).toNat * 5 + 1, none⟩ = some (.int .i64 ((yaa y101 a2).f1)) := hcc6 1 _ rfl; have c2 : w12.cell? ⟨go5, (a2 : Int).toNat * 5 + 2, none⟩ = some (.int .i64 ((yaa y101 a2).f2)) := hcc6 2 _ rfl; have c5 : w12.cell? ⟨go5, (a2 : Int).toNat * 5 + 3, none⟩ = some (.int .i64 ((yaa y101 a2).f3)) := hcc6 3 _ rfl; have c6 : w12.cell? ⟨go5, (a2 : Int).toNat * 5 + 4, none⟩ = some (.int .i64 ((yaa y101 a2).f4)) := hcc6 4 _ rfl; have hf6_0 : w12.frozen? ⟨go5, (a2 : Int).toNat * 5, none⟩ = false := hfr6 0; have hf6_1 : w12.frozen? ⟨go5, (a2 : Int).toNat * 5 + 1, none⟩ = false := hfr6 1; have hf6_2 : w12.frozen? ⟨go5, (a2 : Int).toNat * 5 + 2, none⟩ = false := hfr6 2; have hf6_3 : w12.frozen? ⟨go5, (a2 : Int).toNat * 5 + 3, none⟩ = false := hfr6 3; have hf6_4 : w12.frozen? ⟨go5, (a2 : Int).toNat * 5 + 4, none⟩ = false := hfr6 4; clear hcl6 hcc6 hfr6 hM6; replace p6 := eq_true p6; replace q6 := eq_true q6; have HX13 := yab (show Kd.R k23 23 w12 w0.heap.size (fun k_ => (P0_ k_ ∨ w.heap.size ≤ k_)) (.slice (some ⟨go5, 0, none⟩) a3.length a6) y101 from (upR a4.out)); obtain ⟨e4, hcl13, hM13, hcc13, hfr13⟩ := Kd.R_elem HX13.out z23 (a2 : Int) (of_decide_eq_true (by assumption)) (by have h_ : (a2 : Int) < ((a3.length : Int) : Int) := of_decide_eq_true (by assumption); first | exact h_ | (have e_ := (Kd.R_reads' a4.out).1; omega) | simpa using h_); obtain rfl := k23_openM hM13; have HP13 := Kd.R_seg HX13.out (a2 : Int) (of_decide_eq_true (by assumption)) (by have h_ : (a2 : Int) < ((a3.length : Int) : Int) := of_decide_eq_true (by assumption); first | exact h_ | (have e_ := (Kd.R_reads' a4.out).1; omega) | simpa using h_) (seg := [.int .i64 (wrap64 (a5 + 1))]) (j := 1) hcl13 hcc13 (show 2 ≤ 5 from by decide) (x' := (⟨(yaa y101 a2).f0, wrap64 (a5 + 1), (yaa y101 a2).f2, (yaa y101 a2).f3, (yaa y101 a2).f4⟩ : S23)) (k23_mkM _ _ _ (⟨(yaa y101 a2).f0, wrap64 (a5 + 1), (yaa y101 a2).f2, (yaa y101 a2).f3, (yaa y101 a2).f4⟩ : S23) ) (fun _ hk => hk); have a8 := hcc13 1 _ rfl; (try simp only [show (k23).sz = 5 from rfl, Nat.mul_one, Nat.add_zero] at a8); have hf13_1 := hfr13 1; (try simp only [show (k23).sz = 5 from rfl, Nat.mul_one, Nat.add_zero] at hf13_1); clear hcl13 hcc13 hfr13 hM13) | ((with_reducible refine gate_store (t := 3) (p := 23) rfl ?_); refine store_event (t := 3) (p := 23) (v := ?vo_w14) (w1 := (w12.setCell ⟨go5, (a2 : Int).toNat * 5 + 1, none⟩ (.int .i64 (wrap64 (a5 + 1))))) ?hg ?ho ?hn ?hr ?_; (case ho => rfl); (case hg => rfl); (case hn => rfl); (case hr => first | (go_simp; done) | (go_simp; rfl)); intro w14 hw; have hg : w12.grownBy w14 (some go5) := (by rw [hw]; exact HP13.2); have hp_ : Kd.R k23 23 w14 w0.heap.size (fun k_ => (P0_ k_ ∨ w.heap.size ≤ k_)) (.slice (some ⟨go5, 0, none⟩) a3.length a6) y102 := (by rw [hw, Ny102.out]; exact HP13.1); clear HP13; replace HB := yab ((by rw [hw]; exact below_set (HB.out) GB5.out : Below w0.heap.size w0 w14)); replace HK := yab (Kept.of_grown (S := (fun k_ => P0_ k_)) hg (by repeat (with_reducible first | exact HK.out | apply Kept.alloc | apply Kept.drewN | apply Kept.drew)) (fun k_ e_ => (a4.out.1 k_ e_))); replace a4 := yab (hp_); clear hg hw hp_; have p7 : 0 ≤ (a2 : Int) := of_decide_eq_true (by assumption); have q7 : (a2 : Int) < ((a3.length : Int) : Int) := of_decide_eq_true (by assumption); obtain ⟨ce7, hcl7, hM7, hcc7, hfr7⟩ := Kd.R_elem a4.out z23 (a2 : Int) p7 q7; obtain rfl := k23_openM hM7; have c7 : w14.cell? ⟨go5, (a2 : Int).toNat * 5, none⟩ = some (.int .i64 ((yaa y102 a2).f0)) := hcc7 0 _ rfl; have c8 : w14.cell? ⟨go5, (a2 : Int).toNat * 5 + 1, none⟩ = some (.int .i64 ((yaa y102 a2).f1)) := hcc7 1 _ rfl; have c9 : w14.cell? ⟨go5, (a2 : Int).toNat * 5 + 2, none⟩ = some (.int .i64 ((yaa y102 a2).f2)) := hcc7 2 _ rfl; have d0 : w14.cell? ⟨go5, (a2 : Int).toNat * 5 + 3, none⟩ = some (.int .i64 ((yaa y102 a2).f3)) := hcc7 3 _ rfl; have d1 : w14.cell? ⟨go5, (a2 : Int).toNat * 5 + 4, none⟩ = some (.int .i64 ((yaa y102 a2).f4)) := hcc7 4 _ rfl; have hf7_0 : w14.frozen? ⟨go5, (a2 : Int).toNat * 5, none⟩ = false := hfr7 0; have hf7_1 : w14.frozen? ⟨go5, (a2 : Int).toNat * 5 + 1, none⟩ = false := hfr7 1; have hf7_2 : w14.frozen? ⟨go5, (a2 : Int).toNat * 5 + 2, none⟩ = false := hfr7 2; have hf7_3 : w14.frozen? ⟨go5, (a2 : Int).toNat * 5 + 3, none⟩ = false := hfr7 3; have hf7_4 : w14.frozen? ⟨go5, (a2 : Int).toNat * 5 + 4, none⟩ = false := hfr7 4; clear hcl7 hcc7 hfr7 hM7; replace p7 := eq_true p7; replace q7 := eq_true q7; have HX15 := yab (show Kd.R k23 23 w14 w0.heap.size (fun k_ => (P0_ k_ ∨ w.heap.size ≤ k_)) (.slice (some ⟨go5, 0, none⟩) a3.length a6) y102 from (upR a4.out)); obtain ⟨e5, hcl15, hM15, hcc15, hfr15⟩ := Kd.R_elem HX15.out z23 (a2 : Int) (of_decide_eq_true (by assumption)) (by have h_ : (a2 : Int) < ((a3.length : Int) : Int) := of_decide_eq_true (by assumption); first | exact h_ | (have e_ := (Kd.R_reads' a4.out).1; omega) | simpa using h_); obtain rfl := k23_openM hM15; have HP15 := Kd.R_seg HX15.out (a2 : Int) (of_decide_eq_true (by assumption)) (by have h_ : (a2 : Int) < ((a3.length : Int) : Int) := of_decide_eq_true (by assumption); first | exact h_ | (have e_ := (Kd.R_reads' a4.out).1; omega) | simpa using h_) (seg := [.int .i64 (wrap64 ((wrap64 (a5 + 1)) + 1))]) (j := 2) hcl15 hcc15 (show 3 ≤ 5 from by decide) (x' := (⟨(yaa y102 a2).f0, (yaa y102 a2).f1, wrap64 ((wrap64 (a5 + 1)) + 1), (yaa y102 a2).f3, (yaa y102 a2).f4⟩ : S23)) (k23_mkM _ _ _ (⟨(yaa y102 a2).f0, (yaa y102 a2).f1, wrap64 ((wrap64 (a5 + 1)) + 1), (yaa y102 a2).f3, (yaa y102 a2).f4⟩ : S23) ) (fun _ hk => hk); have a9 := hcc15 2 _ rfl; (try simp only [show (k23).sz = 5 from rfl, Nat.mul_one, Nat.add_zero] at a9); have hf15_2 := hfr15 2; (try simp only [show (k23).sz = 5 from rfl, Nat.mul_one, Nat.add_zero] at hf15_2); clear hcl15 hcc15 hfr15 hM15) | ((with_reducible refine gate_store (t := 3) (p := 30) rfl ?_); refine store_event (t := 3) (p := 30) (v := ?vo_w16) (w1 := (w14.setCell ⟨go5, (a2 : Int).toNat * 5 + 2, none⟩ (.int .i64 (wrap64 ((wrap64 (a5 + 1)) + 1))))) ?hg ?ho ?hn ?hr ?_; (case ho => rfl); (case hg => rfl); (case hn => rfl); (case hr => first | (go_simp; done) | (go_simp; rfl)); intro w16 hw; have hg : w14.grownBy w16 (some go5) := (by rw [hw]; exact HP15.2); have hp_ : Kd.R k23 23 w16 w0.heap.size (fun k_ => (P0_ k_ ∨ w.heap.size ≤ k_)) (.slice (some ⟨go5, 0, none⟩) a3.length a6) y103 := (by rw [hw, Ny103.out]; exact HP15.1); clear HP15; replace HB := yab ((by rw [hw]; exact below_set (HB.out) GB5.out : Below w0.heap.size w0 w16)); replace HK := yab (Kept.of_grown (S := (fun k_ => P0_ k_)) hg (by repeat (with_reducible first | exact HK.out | apply Kept.alloc | apply Kept.drewN | apply Kept.drew)) (fun k_ e_ => (a4.out.1 k_ e_))); replace a4 := yab (hp_); clear hg hw hp_; have p8 : 0 ≤ (a2 : Int) := of_decide_eq_true (by assumption); have q8 : (a2 : Int) < ((a3.length : Int) : Int) := of_decide_eq_true (by assumption); obtain ⟨ce8, hcl8, hM8, hcc8, hfr8⟩ := Kd.R_elem a4.out z23 (a2 : Int) p8 q8; obtain rfl := k23_openM hM8; have d2 : w16.cell? ⟨go5, (a2 : Int).toNat * 5, none⟩ = some (.int .i64 ((yaa y103 a2).f0)) := hcc8 0 _ rfl; have d3 : w16.cell? ⟨go5, (a2 : Int).toNat * 5 + 1, none⟩ = some (.int .i64 ((yaa y103 a2).f1)) := hcc8 1 _ rfl; have d4 : w16.cell? ⟨go5, (a2 : Int).toNat * 5 + 2, none⟩ = some (.int .i64 ((yaa y103 a2).f2)) := hcc8 2 _ rfl; have d5 : w16.cell? ⟨go5, (a2 : Int).toNat * 5 + 3, none⟩ = some (.int .i64 ((yaa y103 a2).f3)) := hcc8 3 _ rfl; have d6 : w16.cell? ⟨go5, (a2 : Int).toNat * 5 + 4, none⟩ = some (.int .i64 ((yaa y103 a2).f4)) := hcc8 4 _ rfl; have hf8_0 : w16.frozen? ⟨go5, (a2 : Int).toNat * 5, none⟩ = false := hfr8 0; have hf8_1 : w16.frozen? ⟨go5, (a2 : Int).toNat * 5 + 1, none⟩ = false := hfr8 1; have hf8_2 : w16.frozen? ⟨go5, (a2 : Int).toNat * 5 + 2, none⟩ = false := hfr8 2; have hf8_3 : w16.frozen? ⟨go5, (a2 : Int).toNat * 5 + 3, none⟩ = false := hfr8 3; have hf8_4 : w16.frozen? ⟨go5, (a2 : Int).toNat * 5 + 4, none⟩ = false := hfr8 4; clear hcl8 hcc8 hfr8 hM8; replace p8 := eq_true p8; replace q8 := eq_true q8; have HX17 := yab (show Kd.R k23 23 w16 w0.heap.size (fun k_ => (P0_ k_ ∨ w.heap.size ≤ k_)) (.slice (some ⟨go5, 0, none⟩) a3.length a6) y103 from (upR a4.out)); obtain ⟨e6, hcl17, hM17, hcc17, hfr17⟩ := Kd.R_elem HX17.out z23 (a2 : Int) (of_decide_eq_true (by assumption)) (by have h_ : (a2 : Int) < ((a3.length : Int) : Int) := of_decide_eq_true (by assumption); first | exact h_ | (have e_ := (Kd.R_reads' a4.out).1; omega) | simpa using h_); obtain rfl := k23_openM hM17; have HP17 := Kd.R_seg HX17.out (a2 : Int) (of_decide_eq_true (by assumption)) (by have h_ : (a2 : Int) < ((a3.length : Int) : Int) := of_decide_eq_true (by assumption); first | exact h_ | (have e_ := (Kd.R_reads' a4.out).1; omega) | simpa using h_) (seg := [.int .i64 (wrap64 ((wrap64 ((wrap64 (a5 + 1)) + 1)) + 1))]) (j := 3) hcl17 hcc17 (show 4 ≤ 5 from by decide) (x' := (⟨(yaa y103 a2).f0, (yaa y103 a2).f1, (yaa y103 a2).f2, wrap64 ((wrap64 ((wrap64 (a5 + 1)) + 1)) + 1), (yaa y103 a2).f4⟩ : S23)) (k23_mkM _ _ _ (⟨(yaa y103 a2).f0, (yaa y103 a2).f1, (yaa y103 a2).f2, wrap64 ((wrap64 ((wrap64 (a5 + 1)) + 1)) + 1), (yaa y103 a2).f4⟩ : S23) ) (fun _ hk => hk); have b0 := hcc17 3 _ rfl; (try simp only [show (k23).sz = 5 from rfl, Nat.mul_one, Nat.add_zero] at b0); have hf17_3 := hfr17 3; (try simp only [show (k23).sz = 5 from rfl, Nat.mul_one, Nat.add_zero] at hf17_3); clear hcl17 hcc17 hfr17 hM17) | ((with_reducible refine gate_store (t := 3) (p := 37) rfl ?_); refine store_event (t := 3) (p := 37) (v := ?vo_w18) (w1 := (w16.setCell ⟨go5, (a2 : Int).toNat * 5 + 3, none⟩ (.int .i64 (wrap64 ((wrap64 ((wrap64 (a5 + 1)) + 1)) + 1))))) ?hg ?ho ?hn ?hr ?_; (case ho => rfl); (case hg => rfl); (case hn => rfl); (case hr => first | (go_simp; done) | (go_simp; rfl)); intro w18 hw; have hg : w16.grownBy w18 (some go5) := (by rw [hw]; exact HP17.2); have hp_ : Kd.R k23 23 w18 w0.heap.size (fun k_ => (P0_ k_ ∨ w.heap.size ≤ k_)) (.slice (some ⟨go5, 0, none⟩) a3.length a6) y104 := (by rw [hw, Ny104.out]; exact HP17.1); clear HP17; replace HB := yab ((by rw [hw]; exact below_set (HB.out) GB5.out : Below w0.heap.size w0 w18)); replace HK := yab (Kept.of_grown (S := (fun k_ => P0_ k_)) hg (by repeat (with_reducible first | exact HK.out | apply Kept.alloc | apply Kept.drewN | apply Kept.drew)) (fun k_ e_ => (a4.out.1 k_ e_))); replace a4 := yab (hp_); clear hg hw hp_; have p9 : 0 ≤ (a2 : Int) := of_decide_eq_true (by assumption); have q9 : (a2 : Int) < ((a3.length : Int) : Int) := of_decide_eq_true (by assumption); obtain ⟨ce9, hcl9, hM9, hcc9, hfr9⟩ := Kd.R_elem a4.out z23 (a2 : Int) p9 q9; obtain rfl := k23_openM hM9; have d7 : w18.cell? ⟨go5, (a2 : Int).toNat * 5, none⟩ = some (.int .i64 ((yaa y104 a2).f0)) := hcc9 0 _ rfl; have d8 : w18.cell? ⟨go5, (a2 : Int).toNat * 5 + 1, none⟩ = some (.int .i64 ((yaa y104 a2).f1)) := hcc9 1 _ rfl; have d9 : w18.cell? ⟨go5, (a2 : Int).toNat * 5 + 2, none⟩ = some (.int .i64 ((yaa y104 a2).f2)) := hcc9 2 _ rfl; have e0 : w18.cell? ⟨go5, (a2 : Int).toNat * 5 + 3, none⟩ = some (.int .i64 ((yaa y104 a2).f3)) := hcc9 3 _ rfl; have e1 : w18.cell? ⟨go5, (a2 : Int).toNat * 5 + 4, none⟩ = some (.int .i64 ((yaa y104 a2).f4)) := hcc9 4 _ rfl; have hf9_0 : w18.frozen? ⟨go5, (a2 : Int).toNat * 5, none⟩ = false := hfr9 0; have hf9_1 : w18.frozen? ⟨go5, (a2 : Int).toNat * 5 + 1, none⟩ = false := hfr9 1; have hf9_2 : w18.frozen? ⟨go5, (a2 : Int).toNat * 5 + 2, none⟩ = false := hfr9 2; have hf9_3 : w18.frozen? ⟨go5, (a2 : Int).toNat * 5 + 3, none⟩ = false := hfr9 3; have hf9_4 : w18.frozen? ⟨go5, (a2 : Int).toNat * 5 + 4, none⟩ = false := hfr9 4; clear hcl9 hcc9 hfr9 hM9; replace p9 := eq_true p9; replace q9 := eq_true q9; have HX19 := yab (show Kd.R k23 23 w18 w0.heap.size (fun k_ => (P0_ k_ ∨ w.heap.size ≤ k_)) (.slice (some ⟨go5, 0, none⟩) a3.length a6) y104 from (upR a4.out)); obtain ⟨e7, hcl19, hM19, hcc19, hfr19⟩ := Kd.R_elem HX19.out z23 (a2 : Int) (of_decide_eq_true (by assumption)) (by have h_ : (a2 : Int) < ((a3.length : Int) : Int) := of_decide_eq_true (by assumption); first | exact h_ | (have e_ := (Kd.R_reads' a4.out).1; omega) | simpa using h_); obtain rfl := k23_openM hM19; have HP19 := Kd.R_seg HX19.out (a2 : Int) (of_decide_eq_true (by assumption)) (by have h_ : (a2 : Int) < ((a3.length : Int) : Int) := of_decide_eq_true (by assumption); first | exact h_ | (have e_ := (Kd.R_reads' a4.out).1; omega) | simpa using h_) (seg := [.int .i64 (wrap64 ((wrap64 ((wrap64 ((wrap64 (a5 + 1)) + 1)) + 1)) + 1))]) (j := 4) hcl19 hcc19 (show 5 ≤ 5 from by decide) (x' := (⟨(yaa y104 a2).f0, (yaa y104 a2).f1, (yaa y104 a2).f2, (yaa y104 a2).f3, wrap64 ((wrap64 ((wrap64 ((wrap64 (a5 + 1)) + 1)) + 1)) + 1)⟩ : S23)) (k23_mkM _ _ _ (⟨(yaa y104 a2).f0, (yaa y104 a2).f1, (yaa y104 a2).f2, (yaa y104 a2).f3, wrap64 ((wrap64 ((wrap64 ((wrap64 (a5 + 1)) + 1)) + 1)) + 1)⟩ : S23) ) (fun _ hk => hk); have b1 := hcc19 4 _ rfl; (try simp only [show (k23).sz = 5 from rfl, Nat.mul_one, Nat.add_zero] at b1); have hf19_4 := hfr19 4; (try simp only [show (k23).sz = 5 from rfl, Nat.mul_one, Nat.add_zero] at hf19_4); clear hcl19 hcc19 hfr19 hM19) | ((with_reducible refine gate_store (t := 3) (p := 44) rfl ?_); refine store_event (t := 3) (p := 44) (v := ?vo_w20) (w1 := (w18.setCell ⟨go5, (a2 : Int).toNat * 5 + 4, none⟩ (.int .i64 (wrap64 ((wrap64 ((wrap64 ((wrap64 (a5 + 1)) + 1)) + 1)) + 1))))) ?hg ?ho ?hn ?hr ?_; (case ho => rfl); (case hg => rfl); (case hn => rfl); (case hr => first | (go_simp; done) | (go_simp; rfl)); intro w20 hw; have hg : w18.grownBy w20 (some go5) := (by rw [hw]; exact HP19.2); have hp_ : Kd.R k23 23 w20 w0.heap.size (fun k_ => (P0_ k_ ∨ w.heap.size ≤ k_)) (.slice (some ⟨go5, 0, none⟩) a3.length a6) y105 := (by rw [hw, Ny105.out]; exact HP19.1); clear HP19; replace HB := yab ((by rw [hw]; exact below_set (HB.out) GB5.out : Below w0.heap.size w0 w20)); replace HK := yab (Kept.of_grown (S := (fun k_ => P0_ k_)) hg (by repeat (with_reducible first | exact HK.out | apply Kept.alloc | apply Kept.drewN | apply Kept.drew)) (fun k_ e_ => (a4.out.1 k_ e_))); replace a4 := yab (hp_); clear hg hw hp_))
     go_roundg k1
     case measure => have := HK1.out; omega
     case rel => exact ⟨(y105), (wrap64 ((wrap64 ((wrap64 ((wrap64 ((wrap64 (a5 + 1)) + 1)) + 1)) + 1)) + 1)), (wrap64 (a2 + 1)), (by first | rfl | (simp; done) | (simp [*]; done)), (by first | rfl | (simp; done) | (simp [*]; done)), H', ⟨by have := HK1.out; omega⟩, ⟨by first | exact a4.out | exact upR a4.out⟩, ⟨by repeat (with_reducible first | exact HK.out | apply Kept.alloc | apply Kept.drewN | apply Kept.drew)⟩, ⟨upH HB.out⟩⟩
    ·
     rw [if_neg c4] at H
     exact absurd H (by simp)
   ·
    rw [if_neg c3] at H
    have b2 : decide (a2 < (a3.length : Int)) = false := decide_eq_false c3; clear c3
    simp only [Option.some.injEq, Prod.mk.injEq] at H
    obtain ⟨rfl, rfl⟩ := H; obtain ⟨e8, e9, b4⟩ := Kd.R_slice a4.out; subst b4
    go_wp2
    go_ret
    exact ⟨by first | rfl | (simp [*, errW_none, errW_some] <;> rfl), by first | exact a4.out | exact upR a4.out, upH HB.out, by repeat (with_reducible first | exact HK.out | apply Kept.alloc | apply Kept.drewN | apply Kept.drew)⟩
end
section
def laws_markUrlAsk.f (k : Nat) (l0_0 : List (S23)) (a0_1 : ByteArray) (a0_2 : Int) (a1 : Int) : Option (Int × (List (S23))) := (laws_markOpOpS.f k l0_0 a1).bind fun bt102 => (some (bt102.1, bt102.2))
set_option maxHeartbeats 8000000 in
set_option maxRecDepth 100000 in
theorem laws_markUrlAsk.calls (k : Nat) (P0_0_ : Nat → Prop) (u9000_ : Value) (l0_0 : List (S23)) (a0_1 : ByteArray) (a0_2 : Int) (a1 : Int) (r1 : Int) (r2 : List (S23)) (w0 w : World) (hB : Below w0.heap.size w0 w) (ho0_0 : Kd.R k23 23 w w0.heap.size P0_0_ u9000_ l0_0) (h : laws_markUrlAsk.f k l0_0 a0_1 a0_2 a1 = some (r1, r2)) :
    Calls Tryd.prog 20 #[.agg #[u9000_, .string a0_1, .int .i64 a0_2], .int .i64 a1] w fun e w' => e = .returned (.int .i64 r1) ∧ Kd.R k23 23 w' w0.heap.size (fun k_ => (P0_0_ k_ ∨ w.heap.size ≤ k_)) u9000_ r2 ∧ Below w0.heap.size w0 w' ∧ Kept w w' (fun k_ => P0_0_ k_) := by
  have hu37 := Tryd.underlying37; have HO0_0 := Aside0.mk (show Kd.R k23 23 w w0.heap.size (fun k_ => (P0_0_ k_ ∨ w.heap.size ≤ k_)) u9000_ l0_0 from Kd.R_mono ho0_0 (fun k_ hk => (.inl hk))); have HK := Aside0.mk (Kept.refl w (fun k_ => P0_0_ k_)); have HW0 := Aside0.mk hB.size; have HB := Aside0.mk hB; clear hB; have H : ((laws_markOpOpS.f k l0_0 a1).bind fun bt102 => (some (bt102.1, bt102.2))) = some (r1, r2) := h; clear h; obtain ⟨⟨t102, t103⟩, A3, H⟩ := bindA H; (try dsimp only at H)
  simp only [Option.some.injEq, Prod.mk.injEq] at H
  obtain ⟨rfl, rfl⟩ := H; obtain ⟨Ao4, co4, eo4⟩ := Kd.R_slice HO0_0.out; subst eo4
  go_enter Tryd.func20, Tryd.ntmps20
  go_wp2_with (first | ((with_reducible refine gd_ 2 rfl ?_); refine bx_ 2 rfl #[.slice Ao4 l0_0.length co4, .string a0_1, .int .i64 a0_2] 37 ?_; intro gb101 hg w5 hbox hb; replace HO0_0 := Aside0.mk (Kd.R_below (upR HO0_0.out) hb); have BK101 := Aside0.mk (hbox); have GW101 := Aside0.mk ((by rw [hg]; exact (by first | exact HK.out.1 | exact (show Kept w _ (fun k_ => P0_0_ k_) from by repeat (with_reducible first | exact HK.out | apply Kept.alloc | apply Kept.drewN | apply Kept.drew)).1) : w.heap.size ≤ gb101)); replace HK := Aside0.mk (Kept.below (S := (fun k_ => P0_0_ k_)) (by repeat (with_reducible first | exact HK.out | apply Kept.alloc | apply Kept.drewN | apply Kept.drew)) hb); have GE101 := Aside0.mk ((by rw [hg]; exact (below_size (upH HB.out)) : w0.heap.size ≤ gb101)); replace HB := Aside0.mk (below_step (upH HB.out) hb); clear hb hbox hg; obtain ⟨hcz6_0, hcz6_1, hcz6_2⟩ := cc3_ BK101.out; obtain ⟨hfz6_0, hfz6_1⟩ := cf2_ BK101.out; have hfz6_2 := blk_frozen BK101.out 2) | ((with_reducible refine gc_ 55 rfl ?_); refine gl_ (some 8) rfl Tryd.func55 #[.slice Ao4 l0_0.length co4, .int .i64 a1] ?_; (with_reducible refine (laws_markOpOpS.calls k (fun k_ => some k_ = (.slice Ao4 l0_0.length co4 : Value).ownBlock) (.slice Ao4 l0_0.length co4) l0_0 a1 t102 t103 w0 _ ?side1 ?side2 A3.out).mono ?_); (case side1 => repeat (with_reducible first | exact HB.out | apply below_alloc | apply pw_below_drewN | apply below_drew1 | refine below_set ?_ (Aside0.out ‹_›))); (case side2 => exact Kd.R_tight rfl HO0_0.out); rintro e w7 ⟨rfl, hy0, hb, hkp⟩; refine ⟨_, rfl, ?_⟩; replace BK101 := Aside0.mk (blk_kept (upB BK101.out) hkp (fun hs_ => (fun e_ => (Kd.R_ne HO0_0.out BK101.out (by decide)) e_) hs_)); replace HK := Aside0.mk (Kept.then_ (S := (fun k_ => P0_0_ k_)) (by repeat (with_reducible first | exact HK.out | apply Kept.alloc | apply Kept.drewN | apply Kept.drew | refine Kept.setCell ?_ (.inr GW101.out) _)) hkp (fun k_ hs_ => (fun e_ => (HO0_0.out.1 k_ e_.symm)) hs_)); replace HO0_0 := Aside0.mk (Kd.R_reok rfl hy0 (fun k_ e_ => HO0_0.out.1 k_ e_)); replace HB := Aside0.mk (hb); (try clear hb); (try clear hkp); (try clear hy0)))
  go_ret
  exact ⟨by first | rfl | (simp [*, errW_none, errW_some] <;> rfl), by first | exact HO0_0.out | exact upR HO0_0.out, by repeat (with_reducible first | exact HB.out | apply below_alloc | apply pw_below_drewN | apply below_drew1 | refine below_set ?_ (Aside0.out ‹_›)), by repeat (with_reducible first | exact HK.out | apply Kept.alloc | apply Kept.drewN | apply Kept.drew | refine Kept.setCell ?_ (.inr GW101.out) _)⟩
end
section
def laws_heldOpOpS.l0 : Nat → List (S23) → Int → Int → Option (Int)
 | 0, _, _, _ => none
 | k + 1, x0, x1, x5 => if x5 < (x0.length : Int) then (if 0 ≤ x5 then (if ((rd_T23 x0 x5).f0) = x1 then (if ((rd_T23 x0 x5).f1) = (wrap64 (x1 + 1)) then (if ((rd_T23 x0 x5).f2) = (wrap64 ((wrap64 (x1 + 1)) + 1)) then (if ((rd_T23 x0 x5).f3) = (wrap64 ((wrap64 ((wrap64 (x1 + 1)) + 1)) + 1)) then (if ((rd_T23 x0 x5).f4) = (wrap64 ((wrap64 ((wrap64 ((wrap64 (x1 + 1)) + 1)) + 1)) + 1)) then (laws_heldOpOpS.l0 k x0 (wrap64 ((wrap64 ((wrap64 ((wrap64 ((wrap64 (x1 + 1)) + 1)) + 1)) + 1)) + 1)) (wrap64 (x5 + 1))) else (some (-1))) else (some (-1))) else (some (-1))) else (some (-1))) else (some (-1))) else (none)) else (some x1)
def laws_heldOpOpS.f (k : Nat) (l0 : List (S23)) (a1 : Int) : Option (Int) := laws_heldOpOpS.l0 k l0 a1 0
set_option maxHeartbeats 8000000 in
set_option maxRecDepth 100000 in
theorem laws_heldOpOpS.calls (k : Nat) (A0 : Option Addr) (c0 : Nat) (l0 : List (S23)) (a1 : Int) (r : Int) (w : World) (hr0 : Kd.C k23 w A0 l0.length l0) (hc0 : l0.length ≤ c0) (h : laws_heldOpOpS.f k l0 a1 = some r) :
  Calls Tryd.prog 56 #[.slice A0 l0.length c0, .int .i64 a1] w fun e w' => e = .returned (.int .i64 r) ∧ Drawn0 w w' := by
 have HR0 := Aside0.mk hr0; have HC0 := Aside0.mk hc0; clear hr0 hc0; have H : (laws_heldOpOpS.l0 k l0 a1 0) = some r := h; clear h; have H' := Aside0.mk H; clear H
 go_enter Tryd.func56, Tryd.ntmps56
 go_wp2
 (try simp only [Act.put, List.setIfInBounds_toArray, List.set_cons_zero, List.set_cons_succ])
 go_loopg [1, 5] k (fun kq v1 v5 w' => ∃ (b4 : Int) (a2 : Int), v1 = .int .i64 b4 ∧ v5 = .int .i64 a2 ∧ Aside0 (laws_heldOpOpS.l0 kq l0 b4 a2 = some r) ∧ Aside0 (kq ≤ k) ∧ Drawn0 w w')
 case atStart => exact ⟨(a1), (0), (by first | rfl | (simp; done) | (simp [*]; done)), (by first | rfl | (simp; done) | (simp [*]; done)), H', ⟨Nat.le_refl _⟩, by repeat (first | exact Drawn0.refl _ | apply Drawn0.step)⟩
 case round =>
  clear H'; (try clear p2); obtain ⟨b4, a2, rfl, rfl, HA, HK1, ⟨m1, rfl⟩⟩ := hrel
  cases gk with
  | zero => exact absurd HA.out (by simp [laws_heldOpOpS.l0])
  | succ k1 =>
   have H := HA.out; clear HA
   simp only [laws_heldOpOpS.l0] at H
   by_cases c3 : a2 < (l0.length : Int)
   ·
    rw [if_pos c3] at H
    have e2 : decide (a2 < (l0.length : Int)) = true := decide_eq_true c3; clear c3
    by_cases c4 : 0 ≤ a2
    ·
     rw [if_pos c4] at H
     replace c4 := decide_eq_true c4
     by_cases c5 : ((rd_T23 l0 a2).f0) = b4
     ·
      rw [if_pos c5] at H
      have e3 := beq_iff_eq.mpr c5; have e4 := bne_eq_false_iff_eq.mpr c5; clear c5
      by_cases c6 : ((rd_T23 l0 a2).f1) = (wrap64 (b4 + 1))
      ·
       rw [if_pos c6] at H
       have e5 := beq_iff_eq.mpr c6; have e6 := bne_eq_false_iff_eq.mpr c6; clear c6
       by_cases c7 : ((rd_T23 l0 a2).f2) = (wrap64 ((wrap64 (b4 + 1)) + 1))
       ·
        rw [if_pos c7] at H
        have e7 := beq_iff_eq.mpr c7; have e8 := bne_eq_false_iff_eq.mpr c7; clear c7
        by_cases c8 : ((rd_T23 l0 a2).f3) = (wrap64 ((wrap64 ((wrap64 (b4 + 1)) + 1)) + 1))
        ·
         rw [if_pos c8] at H
         have e9 := beq_iff_eq.mpr c8; have f5 := bne_eq_false_iff_eq.mpr c8; clear c8
         by_cases c9 : ((rd_T23 l0 a2).f4) = (wrap64 ((wrap64 ((wrap64 ((wrap64 (b4 + 1)) + 1)) + 1)) + 1))
         ·
          rw [if_pos c9] at H
          have f6 := beq_iff_eq.mpr c9; have f7 := bne_eq_false_iff_eq.mpr c9; clear c9; have H' := Aside0.mk H; clear H; have p101 : 0 ≤ (a2 : Int) := of_decide_eq_true (by assumption); have q101 : a2 < (l0.length : Int) := of_decide_eq_true (by assumption); obtain ⟨ad101, b3, a3, a4, a5, a6, a7⟩ := at_T23 HR0.out a2 p101 q101
          cases b3
          replace p101 := eq_true p101; replace q101 := eq_true q101; have p102 : 0 ≤ (a2 : Int) := of_decide_eq_true (by assumption); have q102 : a2 < (l0.length : Int) := of_decide_eq_true (by assumption); obtain ⟨ad102, b5, a8, a9, b0, b1, b2⟩ := at_T23 HR0.out a2 p102 q102; obtain rfl : ad101 = ad102 := (by injection b5); replace p102 := eq_true p102; replace q102 := eq_true q102; have p103 : 0 ≤ (a2 : Int) := of_decide_eq_true (by assumption); have q103 : a2 < (l0.length : Int) := of_decide_eq_true (by assumption); obtain ⟨ad103, c2, b6, b7, b8, b9, c1⟩ := at_T23 HR0.out a2 p103 q103; obtain rfl : ad101 = ad103 := (by injection c2); replace p103 := eq_true p103; replace q103 := eq_true q103; have p104 : 0 ≤ (a2 : Int) := of_decide_eq_true (by assumption); have q104 : a2 < (l0.length : Int) := of_decide_eq_true (by assumption); obtain ⟨ad104, d5, d0, d1, d2, d3, d4⟩ := at_T23 HR0.out a2 p104 q104; obtain rfl : ad101 = ad104 := (by injection d5); replace p104 := eq_true p104; replace q104 := eq_true q104; have p105 : 0 ≤ (a2 : Int) := of_decide_eq_true (by assumption); have q105 : a2 < (l0.length : Int) := of_decide_eq_true (by assumption); obtain ⟨ad105, e1, d6, d7, d8, d9, e0⟩ := at_T23 HR0.out a2 p105 q105; obtain rfl : ad101 = ad105 := (by injection e1); replace p105 := eq_true p105; replace q105 := eq_true q105
          go_wp2
          go_roundg k1
          case measure => have := HK1.out; omega
          case rel => exact ⟨(wrap64 ((wrap64 ((wrap64 ((wrap64 ((wrap64 (b4 + 1)) + 1)) + 1)) + 1)) + 1)), (wrap64 (a2 + 1)), (by first | rfl | (simp; done) | (simp [*]; done)), (by first | rfl | (simp; done) | (simp [*]; done)), H', ⟨by have := HK1.out; omega⟩, by repeat (first | exact Drawn0.refl _ | apply Drawn0.step)⟩
         ·
          rw [if_neg c9] at H
          have f6 := beq_eq_false_iff_ne.mpr c9; have f7 := bne_iff_ne.mpr c9; obtain rfl := Option.some.inj H; have p101 : 0 ≤ (a2 : Int) := of_decide_eq_true (by assumption); have q101 : a2 < (l0.length : Int) := of_decide_eq_true (by assumption); obtain ⟨ad101, b3, a3, a4, a5, a6, a7⟩ := at_T23 HR0.out a2 p101 q101
          cases b3
          replace p101 := eq_true p101; replace q101 := eq_true q101; have p102 : 0 ≤ (a2 : Int) := of_decide_eq_true (by assumption); have q102 : a2 < (l0.length : Int) := of_decide_eq_true (by assumption); obtain ⟨ad102, b5, a8, a9, b0, b1, b2⟩ := at_T23 HR0.out a2 p102 q102; obtain rfl : ad101 = ad102 := (by injection b5); replace p102 := eq_true p102; replace q102 := eq_true q102; have p103 : 0 ≤ (a2 : Int) := of_decide_eq_true (by assumption); have q103 : a2 < (l0.length : Int) := of_decide_eq_true (by assumption); obtain ⟨ad103, c2, b6, b7, b8, b9, c1⟩ := at_T23 HR0.out a2 p103 q103; obtain rfl : ad101 = ad103 := (by injection c2); replace p103 := eq_true p103; replace q103 := eq_true q103; have p104 : 0 ≤ (a2 : Int) := of_decide_eq_true (by assumption); have q104 : a2 < (l0.length : Int) := of_decide_eq_true (by assumption); obtain ⟨ad104, d5, d0, d1, d2, d3, d4⟩ := at_T23 HR0.out a2 p104 q104; obtain rfl : ad101 = ad104 := (by injection d5); replace p104 := eq_true p104; replace q104 := eq_true q104; have p105 : 0 ≤ (a2 : Int) := of_decide_eq_true (by assumption); have q105 : a2 < (l0.length : Int) := of_decide_eq_true (by assumption); obtain ⟨ad105, e1, d6, d7, d8, d9, e0⟩ := at_T23 HR0.out a2 p105 q105; obtain rfl : ad101 = ad105 := (by injection e1); replace p105 := eq_true p105; replace q105 := eq_true q105
          go_wp2
          go_ret
          exact ⟨by first | rfl | (simp; done) | (simp [*]; done), by repeat (first | exact Drawn0.refl _ | apply Drawn0.step)⟩
        ·
         rw [if_neg c8] at H
         have e9 := beq_eq_false_iff_ne.mpr c8; have f5 := bne_iff_ne.mpr c8; obtain rfl := Option.some.inj H; have p101 : 0 ≤ (a2 : Int) := of_decide_eq_true (by assumption); have q101 : a2 < (l0.length : Int) := of_decide_eq_true (by assumption); obtain ⟨ad101, b3, a3, a4, a5, a6, a7⟩ := at_T23 HR0.out a2 p101 q101
         cases b3
         replace p101 := eq_true p101; replace q101 := eq_true q101; have p102 : 0 ≤ (a2 : Int) := of_decide_eq_true (by assumption); have q102 : a2 < (l0.length : Int) := of_decide_eq_true (by assumption); obtain ⟨ad102, b5, a8, a9, b0, b1, b2⟩ := at_T23 HR0.out a2 p102 q102; obtain rfl : ad101 = ad102 := (by injection b5); replace p102 := eq_true p102; replace q102 := eq_true q102; have p103 : 0 ≤ (a2 : Int) := of_decide_eq_true (by assumption); have q103 : a2 < (l0.length : Int) := of_decide_eq_true (by assumption); obtain ⟨ad103, c2, b6, b7, b8, b9, c1⟩ := at_T23 HR0.out a2 p103 q103; obtain rfl : ad101 = ad103 := (by injection c2); replace p103 := eq_true p103; replace q103 := eq_true q103; have p104 : 0 ≤ (a2 : Int) := of_decide_eq_true (by assumption); have q104 : a2 < (l0.length : Int) := of_decide_eq_true (by assumption); obtain ⟨ad104, d5, d0, d1, d2, d3, d4⟩ := at_T23 HR0.out a2 p104 q104; obtain rfl : ad101 = ad104 := (by injection d5); replace p104 := eq_true p104; replace q104 := eq_true q104
         go_wp2
         go_ret
         exact ⟨by first | rfl | (simp; done) | (simp [*]; done), by repeat (first | exact Drawn0.refl _ | apply Drawn0.step)⟩
       ·
        rw [if_neg c7] at H
        have e7 := beq_eq_false_iff_ne.mpr c7; have e8 := bne_iff_ne.mpr c7; obtain rfl := Option.some.inj H; have p101 : 0 ≤ (a2 : Int) := of_decide_eq_true (by assumption); have q101 : a2 < (l0.length : Int) := of_decide_eq_true (by assumption); obtain ⟨ad101, b3, a3, a4, a5, a6, a7⟩ := at_T23 HR0.out a2 p101 q101
        cases b3
        replace p101 := eq_true p101; replace q101 := eq_true q101; have p102 : 0 ≤ (a2 : Int) := of_decide_eq_true (by assumption); have q102 : a2 < (l0.length : Int) := of_decide_eq_true (by assumption); obtain ⟨ad102, b5, a8, a9, b0, b1, b2⟩ := at_T23 HR0.out a2 p102 q102; obtain rfl : ad101 = ad102 := (by injection b5); replace p102 := eq_true p102; replace q102 := eq_true q102; have p103 : 0 ≤ (a2 : Int) := of_decide_eq_true (by assumption); have q103 : a2 < (l0.length : Int) := of_decide_eq_true (by assumption); obtain ⟨ad103, c2, b6, b7, b8, b9, c1⟩ := at_T23 HR0.out a2 p103 q103; obtain rfl : ad101 = ad103 := (by injection c2); replace p103 := eq_true p103; replace q103 := eq_true q103
        go_wp2
        go_ret
        exact ⟨by first | rfl | (simp; done) | (simp [*]; done), by repeat (first | exact Drawn0.refl _ | apply Drawn0.step)⟩
      ·
       rw [if_neg c6] at H
       have e5 := beq_eq_false_iff_ne.mpr c6; have e6 := bne_iff_ne.mpr c6; obtain rfl := Option.some.inj H; have p101 : 0 ≤ (a2 : Int) := of_decide_eq_true (by assumption); have q101 : a2 < (l0.length : Int) := of_decide_eq_true (by assumption); obtain ⟨ad101, b3, a3, a4, a5, a6, a7⟩ := at_T23 HR0.out a2 p101 q101
       cases b3
       replace p101 := eq_true p101; replace q101 := eq_true q101; have p102 : 0 ≤ (a2 : Int) := of_decide_eq_true (by assumption); have q102 : a2 < (l0.length : Int) := of_decide_eq_true (by assumption); obtain ⟨ad102, b5, a8, a9, b0, b1, b2⟩ := at_T23 HR0.out a2 p102 q102; obtain rfl : ad101 = ad102 := (by injection b5); replace p102 := eq_true p102; replace q102 := eq_true q102
       go_wp2
       go_ret
       exact ⟨by first | rfl | (simp; done) | (simp [*]; done), by repeat (first | exact Drawn0.refl _ | apply Drawn0.step)⟩
     ·
      rw [if_neg c5] at H
      have e3 := beq_eq_false_iff_ne.mpr c5; have e4 := bne_iff_ne.mpr c5; obtain rfl := Option.some.inj H; have p101 : 0 ≤ (a2 : Int) := of_decide_eq_true (by assumption); have q101 : a2 < (l0.length : Int) := of_decide_eq_true (by assumption); obtain ⟨ad101, b3, a3, a4, a5, a6, a7⟩ := at_T23 HR0.out a2 p101 q101
      cases b3
      replace p101 := eq_true p101; replace q101 := eq_true q101
      go_wp2
      go_ret
      exact ⟨by first | rfl | (simp; done) | (simp [*]; done), by repeat (first | exact Drawn0.refl _ | apply Drawn0.step)⟩
    ·
     rw [if_neg c4] at H
     exact absurd H (by simp)
   ·
    rw [if_neg c3] at H
    have e2 : decide (a2 < (l0.length : Int)) = false := decide_eq_false c3; clear c3; obtain rfl := Option.some.inj H
    go_wp2
    go_ret
    exact ⟨by first | rfl | (simp; done) | (simp [*]; done), by repeat (first | exact Drawn0.refl _ | apply Drawn0.step)⟩
end
section
def laws_heldUrlAsk.f (k : Nat) (l0_0 : List (S23)) (a0_1 : ByteArray) (a0_2 : Int) (a1 : Int) : Option (Int) := (laws_heldOpOpS.f k l0_0 a1).bind fun t102 => (if t102 < 0 then (some (-1)) else (some t102))
set_option maxHeartbeats 8000000 in
set_option maxRecDepth 100000 in
theorem laws_heldUrlAsk.calls (k : Nat) (A0_0 : Option Addr) (c0_0 : Nat) (l0_0 : List (S23)) (a0_1 : ByteArray) (a0_2 : Int) (a1 : Int) (r : Int) (w : World) (hr0_0 : Kd.C k23 w A0_0 l0_0.length l0_0) (hc0_0 : l0_0.length ≤ c0_0) (h : laws_heldUrlAsk.f k l0_0 a0_1 a0_2 a1 = some r) :
    Calls Tryd.prog 21 #[.agg #[.slice A0_0 l0_0.length c0_0, .string a0_1, .int .i64 a0_2], .int .i64 a1] w fun e w' => e = .returned (.int .i64 r) ∧ Below w.heap.size w w' := by
  have hu37 := Tryd.underlying37; have HR0_0 := Aside0.mk hr0_0; have HC0_0 := Aside0.mk hc0_0; clear hr0_0 hc0_0; have HB := Aside0.mk (Below.refl w.heap.size w); have H : ((laws_heldOpOpS.f k l0_0 a1).bind fun t102 => (if t102 < 0 then (some (-1)) else (some t102))) = some r := h; clear h; obtain ⟨t102, A3, H⟩ := bindA H; (try dsimp only at H)
  by_cases c4 : t102 < 0
  · rw [if_pos c4] at H
    have c4b0 : decide (t102 < 0) = true := decide_eq_true c4; clear c4; obtain rfl := Option.some.inj H
    go_enter Tryd.func21, Tryd.ntmps21
    go_wp2_with (first | ((with_reducible refine gd_ 2 rfl ?_); refine bx_ 2 rfl #[.slice A0_0 l0_0.length c0_0, .string a0_1, .int .i64 a0_2] 37 ?_; intro gb101 hg w5 hbox hb; have BK101 := Aside0.mk (hbox); have GW101 := Aside0.mk ((by rw [hg]; exact (below_size (upH HB.out)) : w.heap.size ≤ gb101)); replace HB := Aside0.mk (below_step (upH HB.out) hb); have GE101 := GW101; clear hb hbox hg; obtain ⟨hcz6_0, hcz6_1, hcz6_2⟩ := cc3_ BK101.out; obtain ⟨hfz6_0, hfz6_1⟩ := cf2_ BK101.out; have hfz6_2 := blk_frozen BK101.out 2) | ((with_reducible refine gc_ 56 rfl ?_); refine gl_ (some 8) rfl Tryd.func56 #[.slice A0_0 l0_0.length c0_0, .int .i64 a1] ?_; (with_reducible refine (laws_heldOpOpS.calls k _ _ l0_0 a1 t102 _ ?side1 ?side2 A3.out).mono ?_); (case side1 => repeat (first | exact (Kd.C_below HR0_0.out HB.out) | (with_reducible refine Kd.C_alloc ?_ _) | (with_reducible refine Kd.C_drewN ?_ _) | (with_reducible refine Kd.C_drew ?_))); (case side2 => exact HC0_0.out); rintro e w' ⟨rfl, ⟨nd, rfl⟩⟩; refine ⟨_, rfl, ?_⟩))
    go_ret
    exact ⟨by first | rfl | (simp [*, errW_none, errW_some] <;> rfl), by repeat (with_reducible first | exact HB.out | apply below_alloc | apply pw_below_drewN | apply below_drew1 | refine below_set ?_ (Aside0.out ‹_›))⟩
  · rw [if_neg c4] at H
    have c4b0 : decide (t102 < 0) = false := decide_eq_false c4; clear c4; obtain rfl := Option.some.inj H
    go_enter Tryd.func21, Tryd.ntmps21
    go_wp2_with (first | ((with_reducible refine gd_ 2 rfl ?_); refine bx_ 2 rfl #[.slice A0_0 l0_0.length c0_0, .string a0_1, .int .i64 a0_2] 37 ?_; intro gb101 hg w7 hbox hb; have BK101 := Aside0.mk (hbox); have GW101 := Aside0.mk ((by rw [hg]; exact (below_size (upH HB.out)) : w.heap.size ≤ gb101)); replace HB := Aside0.mk (below_step (upH HB.out) hb); have GE101 := GW101; clear hb hbox hg; obtain ⟨hcz8_0, hcz8_1, hcz8_2⟩ := cc3_ BK101.out; obtain ⟨hfz8_0, hfz8_1⟩ := cf2_ BK101.out; have hfz8_2 := blk_frozen BK101.out 2) | ((with_reducible refine gc_ 56 rfl ?_); refine gl_ (some 8) rfl Tryd.func56 #[.slice A0_0 l0_0.length c0_0, .int .i64 a1] ?_; (with_reducible refine (laws_heldOpOpS.calls k _ _ l0_0 a1 t102 _ ?side1 ?side2 A3.out).mono ?_); (case side1 => repeat (first | exact (Kd.C_below HR0_0.out HB.out) | (with_reducible refine Kd.C_alloc ?_ _) | (with_reducible refine Kd.C_drewN ?_ _) | (with_reducible refine Kd.C_drew ?_))); (case side2 => exact HC0_0.out); rintro e w' ⟨rfl, ⟨nd, rfl⟩⟩; refine ⟨_, rfl, ?_⟩))
    go_ret
    exact ⟨by first | rfl | (simp [*, errW_none, errW_some] <;> rfl), by repeat (with_reducible first | exact HB.out | apply below_alloc | apply pw_below_drewN | apply below_drew1 | refine below_set ?_ (Aside0.out ‹_›))⟩
end
end Go.Proofs.YtfafjpfigphchaaDoor.X
