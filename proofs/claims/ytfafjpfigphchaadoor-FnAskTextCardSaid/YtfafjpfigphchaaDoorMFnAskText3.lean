/- Lemmas and contracts for the law FnAskText, part 3: of the program's functions, and over data alone. Conditions: the listed package-level variables begin as the program's text lays them (tied by the card). -/
import Derived.Test.YtfafjpfigphchaaDoorMFnAskText2
namespace Go.Proofs.YtfafjpfigphchaaDoor.X
open Go.RowKit Go.Proofs.YtfafjpfigphchaaDoorW.PrintWords Go.Proofs.YtfafjpfigphchaaDoorW.PrintLast Go.Proofs.YtfafjpfigphchaaDoorW.PrintMore
attribute [local go_sem] max2_int min2_int max_two min_two max_three min_three max_four min_four
set_option linter.unusedVariables false
set_option linter.unusedSimpArgs false

section
open Go.Proofs.YtfafjpfigphchaaDoorW.PrintWords.Aside0 renaming mk → yaa
open Go.Proofs.YtfafjpfigphchaaDoorW.PrintWords renaming pw_below_drewN → yab, below_drew1 → yad, below_alloc → yae, below_set → yaf, add_block → yai, blk_below → yak, below_step → yal, Aside0 → yan, below_size → yap
open Go.Proofs.YtfafjpfigphchaaDoorW.PrintWords.Kd renaming own_blk → yac, R_ne → yag, R_below → yah, R_far → yaj, R_reads' → yam, R_drew → yao

abbrev q17_0 : Array Bool := Array.replicate 12 false
abbrev q17_1 : Array Bool := bl_ 12 1
abbrev q17_2 : Array Bool := bl_ 12 3
abbrev q17_3 : Array Bool := bl_ 12 7
abbrev q17_4 : Array Bool := bl_ 12 23
abbrev q17_5 : Array Bool := bl_ 12 55
abbrev q17_6 : Array Bool := bl_ 12 63
abbrev q17_7 : Array Bool := bl_ 12 127
abbrev q17_8 : Array Bool := bl_ 12 255
abbrev q17_9 : Array Bool := bl_ 12 2047
abbrev q17_10 : Array Bool := bl_ 12 511
abbrev q17_11 : Array Bool := bl_ 12 1279
abbrev q17_12 : Array Bool := bl_ 12 1023
abbrev q17_13 : Array Bool := bl_ 12 1535
abbrev q17_14 : Array Bool := bl_ 12 4095
mutual
def spec_AskRead.j0 : Nat → ByteArray → List ByteArray → Bool → Option ((List (S23)) × ByteArray × Int × Bool)
 | 0, _, _, _ => none
 | k + 1, x0, x4, x18 => if x18 = true then (some (([] : List (S23)), (⟨#[]⟩ : ByteArray), 0, false)) else (if 1 < (x4.length : Int) then ((spec_l7Read.f k (rdOf ByteArray.empty x4 1)).bind fun bt106 => (if 2 < (x4.length : Int) then ((spec_l7Cut.f k (rdOf ByteArray.empty x4 2) 63).bind fun t111 => (if bt106.2 = true then (if (t111.length : Int) = 2 then (if 1 < (t111.length : Int) then (spec_AskRead.j1 k x0 bt106.1 t111 (decide (((rdOf ByteArray.empty t111 1).size : Int) < 3))) else (none)) else (spec_AskRead.j1 k x0 bt106.1 t111 true)) else (spec_AskRead.j1 k x0 bt106.1 t111 true))) else (none))) else (none))
def spec_AskRead.j1 : Nat → ByteArray → List (S23) → List ByteArray → Bool → Option ((List (S23)) × ByteArray × Int × Bool)
 | 0, _, _, _, _ => none
 | k + 1, x0, x5, x7, x44 => if x44 = true then (some (([] : List (S23)), (⟨#[]⟩ : ByteArray), 0, false)) else (if 0 < (x7.length : Int) then (if 1 < (x7.length : Int) then (if 2 ≤ ((rdOf ByteArray.empty x7 1).size : Int) then ((spec_l7Num.f k ((rdOf ByteArray.empty x7 1).extract 2 (rdOf ByteArray.empty x7 1).size)).bind fun t117 => ((spec_AskText.f k x5 (rdOf ByteArray.empty x7 0) t117).bind fun t119 => (if t119.toList = x0.toList then (if x0.toList = ([] : List UInt8) then (some (([] : List (S23)), (⟨#[]⟩ : ByteArray), 0, false)) else (some (x5, rdOf ByteArray.empty x7 0, t117, true))) else (some (([] : List (S23)), (⟨#[]⟩ : ByteArray), 0, false))))) else (none)) else (none)) else (none))
end
def spec_AskRead.f (k : Nat) (a0 : ByteArray) : Option ((List (S23)) × ByteArray × Int × Bool) := (spec_l7Cut.f k a0 47).bind fun t102 => (if (a0.size : Int) > 200 then (spec_AskRead.j0 k a0 t102 true) else (spec_AskRead.j0 k a0 t102 ((t102.length : Int) != 3)))
def spec_AskRead.T8 : Bool × List (List Nat × List Nat) := (true, [([], []), ([], []), ([1], [1]), ([2], [2]), ([], []), ([4], [4]), ([5], [5]), ([6], [6]), ([7], [7]), ([0, 3, 8], [0, 3, 8]), ([], []), ([10, 9, 8, 0, 1, 2, 3, 4, 5, 6, 7, 8, 9, 10], [9, 10])])
def spec_AskRead.B8 : List Nat := [0, 0, 2, 6, 0, 16, 48, 112, 240, 511, 0, 2047]
theorem spec_AskRead.tab8 : rtab .any (opsOf Tryd.f17 8) = spec_AskRead.T8 := by kernel_rfl
theorem spec_AskRead.bits8 : waitsOk spec_AskRead.T8.2 spec_AskRead.B8 = true := by kernel_rfl
theorem ld3_ {ev : Operand → Value} {W : World} {b : Nat} {A : Option Addr} {n c : Nat} {p : ByteArray} {x : Int} {ps : String} (he : ev (.tmp 8) = .pointer (some ⟨b, 0, none⟩)) (h : W.heap[b]? = some (.cells #[.slice A n c, .string p, .int .i64 x] 37 (0, 0))) : (execOp ev { dst := some 56, op := .load 37 (.tmp 8), type := 37, pos := ps, after := #[], guard := none }).run Tryd.prog W = .ok (.value (.agg #[.slice A n c, .string p, .int .i64 x])) W := by
 have hu := Tryd.underlying37
 obtain ⟨a0, a1, a2⟩ := cc3_ h; clear h
 go_simp
theorem st3_ {ev : Operand → Value} {W : World} {b : Nat} {A : Option Addr} {n c : Nat} {p : ByteArray} {x : Int} {ps : String} {af : Array Edge} (he : ev (.tmp 8) = .pointer (some ⟨b, 0, none⟩)) (hv : ev (.tmp 55) = .agg #[.slice A n c, .string p, .int .i64 x]) (h : W.heap[b]? = some (.cells #[.slice none 0 0, .string (⟨#[]⟩ : ByteArray), .int .i64 0] 37 (0, 0))) : (execOp ev { dst := none, op := .store 37 (.tmp 8) (.tmp 55), type := 0, pos := ps, after := af, guard := none }).run Tryd.prog W = .ok .skip (((W.setCell ⟨b, 0, none⟩ (.slice A n c)).setCell ⟨b, 1, none⟩ (.string p)).setCell ⟨b, 2, none⟩ (.int .i64 x)) := by
 have hu := Tryd.underlying37
 obtain ⟨a0, a1, a2⟩ := cc3_ h; obtain ⟨f0, f1, f2⟩ := cf3_ h; clear h
 go_simp
theorem cell3_ {W : World} {b : Nat} {c0 c1 c2 v : Value} {a : Addr} (h : a.block ≠ b) (hc : W.cell? a = some v) : (((W.setCell ⟨b, 0, none⟩ c0).setCell ⟨b, 1, none⟩ c1).setCell ⟨b, 2, none⟩ c2).cell? a = some v :=
 (cell_far (p := ⟨b, 2, none⟩) h _).trans ((cell_far (p := ⟨b, 1, none⟩) h _).trans ((cell_far (p := ⟨b, 0, none⟩) h _).trans hc))
set_option maxHeartbeats 8000000 in
set_option maxRecDepth 100000 in
theorem spec_AskRead.calls (k : Nat) (a0 : ByteArray) (r1 : List (S23)) (r2 : ByteArray) (r3 : Int) (r4 : Bool) (w : World) (h : spec_AskRead.f k a0 = some (r1, r2, r3, r4)) :
  Calls Tryd.prog 17 #[.string a0] w fun e w' => ∃ v0_ : Value, e = .returned (.tuple #[.agg #[v0_, .string r2, .int .i64 r3], .bool r4]) ∧ Kd.R k23 23 w' w.heap.size (fun _ => True) v0_ r1 ∧ Below w.heap.size w w' := by
 have hu37 := Tryd.underlying37; have HB := yaa (Below.refl w.heap.size w); have H : ((spec_l7Cut.f k a0 47).bind fun b4 => (if (a0.size : Int) > 200 then (spec_AskRead.j0 k a0 b4 true) else (spec_AskRead.j0 k a0 b4 ((b4.length : Int) != 3)))) = some (r1, r2, r3, r4) := h; clear h; obtain ⟨b4, A2, H⟩ := bindA H; (try dsimp only at H); have HC3 := yaa H; clear H
 go_enter Tryd.func17, Tryd.ntmps17
 go_upto_region 2 with (first | ((with_reducible refine gd_ 2 rfl ?_); (try (refine gate_guard (by rfl) ?_; dsimp only)); refine bx_ 2 rfl #[.slice none 0 0, .string (⟨#[]⟩ : ByteArray), .int .i64 0] 37 ?_; intro a9 hg w4 hbox hb; have a3 := yaa (hbox); have f2 := yaa ((by rw [hg]; exact (yap (upH HB.out)) : w.heap.size ≤ a9)); replace HB := yaa (yal (upH HB.out) hb); have p6 := f2; clear hb hbox hg) | ((with_reducible refine gc_ 29 rfl ?_); refine gl_ (some 10) rfl Tryd.func29 #[.string a0, .int .u8 47] ?_; (with_reducible refine (spec_l7Cut.calls k a0 47 b4 _ A2.out).mono ?_); rintro e w5 ⟨o5, rfl, ho0, hb⟩; refine ⟨_, rfl, ?_⟩; have d5 := yaa (Kd.R_lower ho0 (yap (by repeat (with_reducible first | exact HB.out | apply yae | apply yab | apply yad | refine yaf ?_ (Aside0.out ‹_›))))); replace a3 := yaa (yak (upB a3.out) hb); replace HB := yaa (yal (by repeat (with_reducible first | exact HB.out | apply yae | apply yab | apply yad | refine yaf ?_ (Aside0.out ‹_›))) hb); (try clear hb ho0)))
 (try simp only [Act.put, List.setIfInBounds_toArray, List.set_cons_zero, List.set_cons_succ])
 go_cut [18] (fun v18 wc => ∃ (kq : Nat) (d9 : Bool), v18 = .bool d9 ∧ yan (spec_AskRead.j0 kq a0 b4 d9 = some (r1, r2, r3, r4)) ∧ yan (kq ≤ k) ∧ yan (Kd.R Kd.string 9 wc w.heap.size (fun _ => True) o5 b4) ∧ yan (wc.heap[a9]? = some (.cells #[(.slice none 0 0), .string (⟨#[]⟩ : ByteArray), .int .i64 0] 37 (0, 0))) ∧ yan (Below w.heap.size w wc))
 case first =>
  have H := HC3.out; clear HC3
  by_cases c6 : (a0.size : Int) > 200
  ·
   rw [if_pos c6] at H
   have d8 : decide (200 < (a0.size : Int)) = true := decide_eq_true c6; have e5 : decide (200 < a0.size) = true := decide_eq_true (by omega); clear c6
   (first | rw [d8] | (simp only [i64_w, i32_w]; rw [d8]) | skip)
   have H' := yaa H; clear H
   go_wp2
   go_meet
   case rel => exact ⟨_, (true), (by first | rfl | (simp; done) | (simp [*]; done)), H', ⟨by first | omega | exact Nat.le_refl _⟩, ⟨by first | exact d5.out | exact upR d5.out⟩, ⟨by exact upB a3.out⟩, ⟨by repeat (with_reducible first | exact HB.out | apply yae | apply yab | apply yad | refine yaf ?_ (Aside0.out ‹_›))⟩⟩
  ·
   rw [if_neg c6] at H
   have d8 : decide (200 < (a0.size : Int)) = false := decide_eq_false c6; have e5 : decide (200 < a0.size) = false := decide_eq_false (by omega); clear c6
   (first | rw [d8] | (simp only [i64_w, i32_w]; rw [d8]) | skip)
   have H' := yaa H; clear H; obtain ⟨Ao7, co7, eo7⟩ := Kd.R_slice d5.out; subst eo7
   go_wp2
   go_meet
   case rel => exact ⟨_, (((b4.length : Int) != 3)), (by first | rfl | (simp; done) | (simp [*]; done)), H', ⟨by first | omega | exact Nat.le_refl _⟩, ⟨by first | exact d5.out | exact upR d5.out⟩, ⟨by exact upB a3.out⟩, ⟨by repeat (with_reducible first | exact HB.out | apply yae | apply yab | apply yad | refine yaf ?_ (Aside0.out ‹_›))⟩⟩
 case rest =>
  clear HC3; (try clear c1); (try clear c2); (try clear p2); (try clear c6); (try clear d8); (try clear e5); obtain ⟨kq, d9, rfl, HA, HJ2, d6, a3, HB⟩ := hcut
  cases kq with
  | zero => exact absurd HA.out (by simp [spec_AskRead.j0])
  | succ kj2 =>
   have H := HA.out; clear HA
   simp only [spec_AskRead.j0] at H
   by_cases c8 : d9 = true
   ·
    subst c8
    rw [if_pos rfl] at H
    simp only [Option.some.injEq, Prod.mk.injEq] at H
    obtain ⟨rfl, rfl, rfl, rfl⟩ := H; obtain ⟨e6, e7, e8⟩ := cc3_ a3.out; obtain ⟨e9, f0, f1⟩ := cf3_ a3.out
    go_wp2
    refine bodyPost_ret (results_ct rfl _ _ a9 37 #[.slice none 0 0, .string (⟨#[]⟩ : ByteArray), .int .i64 0] (0, 0) _ rfl (by (repeat refine oneB ?_); refine blk_put (cs := #[.slice none 0 0, .string (⟨#[]⟩ : ByteArray), .int .i64 0]) ?_ 2 _ rfl; refine blk_put (cs := #[.slice none 0 0, .string (⟨#[]⟩ : ByteArray), .int .i64 0]) ?_ 1 _ rfl; refine blk_put (cs := #[.slice none 0 0, .string (⟨#[]⟩ : ByteArray), .int .i64 0]) ?_ 0 _ rfl; exact upB a3.out) Tryd.underlying37 rfl (by kernel_rfl)) rfl ?_
    exact ⟨_, by first | rfl | (simp [*, errW_none, errW_some] <;> rfl), by first | exact Kd.R_nil _ _ _ _ _ | exact Kd.N_nil _ _ _ _ _ | exact Kd.V_nil _ _ _ _ _ | exact Kd.Q_nil _ _ _ _ _ | exact Kd.S_nil _ _ _ _ _, by repeat (with_reducible first | exact HB.out | apply yae | apply yab | apply yad | refine yaf ?_ (Aside0.out ‹_›))⟩
   ·
    replace c8 := Bool.eq_false_iff.mpr c8
    subst c8
    rw [if_neg (show ¬ (false = true) by decide)] at H
    by_cases c10 : 1 < (b4.length : Int)
    ·
     rw [if_pos c10] at H
     have f3 : decide (1 < (b4.length : Int)) = true := decide_eq_true c10; have f4 : decide (1 < b4.length) = true := decide_eq_true (by omega); clear c10; obtain ⟨⟨b0, f5⟩, A11, H⟩ := bindA H; (try dsimp only at H)
     by_cases c12 : 2 < (b4.length : Int)
     ·
      rw [if_pos c12] at H
      have f6 : decide (2 < (b4.length : Int)) = true := decide_eq_true c12; have f7 : decide (2 < b4.length) = true := decide_eq_true (by omega); clear c12; obtain ⟨a5, A13, H⟩ := bindA H; (try dsimp only at H); have HC14 := yaa H; clear H; obtain ⟨s2, s3, o6⟩ := Kd.R_slice d6.out; subst o6; have p105 : 0 ≤ (1 : Int) := (by omega); have q105 : 1 < (b4.length : Int) := of_decide_eq_true (by assumption); obtain ⟨ad105, o7, d1⟩ := Kd.at_string (yam d6.out).2.2 1 p105 q105
      cases o7
      (try simp only [show (1 : Int).toNat = 1 from rfl, Nat.reduceMul, Nat.reduceEqDiff, Go.Addr.add, ↓reduceIte] at d1)
      have qi105 : (1 < b4.length) = True := eq_true (by omega)
      (try rw [show ((1 : Int)).toNat = 1 from rfl] at d1)
      replace p105 := eq_true p105; replace q105 := eq_true q105
      go_upto_region 6 with (first | ((with_reducible refine gc_ 48 rfl ?_); refine gl_ (some 24) rfl Tryd.func48 #[.string (rdOf ByteArray.empty b4 1)] ?_; (with_reducible refine (spec_l7Read.calls kj2 (rdOf ByteArray.empty b4 1) b0 f5 _ A11.out).mono ?_); rintro e w16 ⟨o8, rfl, ho0, hb⟩; refine ⟨_, rfl, ?_⟩; replace d6 := yaa (yah (upR d6.out) hb); have b9 := yaa (Kd.R_lower ho0 (yap (by repeat (with_reducible first | exact HB.out | apply yae | apply yab | apply yad | refine yaf ?_ (Aside0.out ‹_›))))); replace a3 := yaa (yak (upB a3.out) hb); replace HB := yaa (yal (by repeat (with_reducible first | exact HB.out | apply yae | apply yab | apply yad | refine yaf ?_ (Aside0.out ‹_›))) hb); (try clear hb ho0); have p110 : 0 ≤ (2 : Int) := (by omega); have q110 : 2 < (b4.length : Int) := of_decide_eq_true (by assumption); obtain ⟨ad110, o9, d2⟩ := Kd.at_string (yam d6.out).2.2 2 p110 q110; obtain rfl : ad105 = ad110 := (by injection o9); (try simp only [show (2 : Int).toNat = 2 from rfl, Nat.reduceMul, Nat.reduceEqDiff, Go.Addr.add, ↓reduceIte] at d2); have qi110 : (2 < b4.length) = True := eq_true (by omega); (try rw [show ((2 : Int)).toNat = 2 from rfl] at d2); replace p110 := eq_true p110; replace q110 := eq_true q110) | ((with_reducible refine gc_ 29 rfl ?_); refine gl_ (some 30) rfl Tryd.func29 #[.string (rdOf ByteArray.empty b4 2), .int .u8 63] ?_; (with_reducible refine (spec_l7Cut.calls kj2 (rdOf ByteArray.empty b4 2) 63 a5 _ A13.out).mono ?_); rintro e w17 ⟨p0, rfl, ho0, hb⟩; refine ⟨_, rfl, ?_⟩; replace b9 := yaa (yah (upR b9.out) hb); have c9 := yaa (Kd.R_lower (Kd.R_new' ho0 (Kd.R_lt (upR d6.out))) (yap (by repeat (with_reducible first | exact HB.out | apply yae | apply yab | apply yad | refine yaf ?_ (Aside0.out ‹_›))))); replace d6 := yaa (Kd.R_elder' (upR d6.out) (Kd.R_base ho0) hb); replace a3 := yaa (yak (upB a3.out) hb); replace HB := yaa (yal (by repeat (with_reducible first | exact HB.out | apply yae | apply yab | apply yad | refine yaf ?_ (Aside0.out ‹_›))) hb); (try clear hb ho0)))
      (try simp only [Act.put, List.setIfInBounds_toArray, List.set_cons_zero, List.set_cons_succ])
      go_cut [44] (fun v44 wc => ∃ (kq : Nat) (d3 : Bool), v44 = .bool d3 ∧ yan (spec_AskRead.j1 kq a0 b0 a5 d3 = some (r1, r2, r3, r4)) ∧ yan (kq ≤ kj2) ∧ yan (Kd.R k23 23 wc w.heap.size (fun _ => True) o8 b0) ∧ yan (Kd.R Kd.string 9 wc w.heap.size (fun _ => True) p0 a5) ∧ yan (wc.heap[a9]? = some (.cells #[(.slice none 0 0), .string (⟨#[]⟩ : ByteArray), .int .i64 0] 37 (0, 0))) ∧ yan (Below w.heap.size w wc))
      case first =>
       have H := HC14.out; clear HC14
       by_cases c18 : f5 = true
       ·
        subst c18
        rw [if_pos rfl] at H
        by_cases c19 : (a5.length : Int) = 2
        ·
         rw [if_pos c19] at H
         have d0 := beq_iff_eq.mpr c19; have e4 := bne_eq_false_iff_eq.mpr c19; clear c19
         (first | rw [d0] | (simp only [i64_w, i32_w]; rw [d0]) | skip)
         by_cases c20 : 1 < (a5.length : Int)
         ·
          rw [if_pos c20] at H
          have f8 : decide (1 < (a5.length : Int)) = true := decide_eq_true c20; have f9 : decide (1 < a5.length) = true := decide_eq_true (by omega); clear c20; have H' := yaa H; clear H; obtain ⟨s4, s5, p3⟩ := Kd.R_slice c9.out; subst p3; have p114 : 0 ≤ (1 : Int) := (by omega); have q114 : 1 < (a5.length : Int) := of_decide_eq_true (by assumption); obtain ⟨ad114, p4, d4⟩ := Kd.at_string (yam c9.out).2.2 1 p114 q114
          cases p4
          (try simp only [show (1 : Int).toNat = 1 from rfl, Nat.reduceMul, Nat.reduceEqDiff, Go.Addr.add, ↓reduceIte] at d4)
          have qi114 : (1 < a5.length) = True := eq_true (by omega)
          (try rw [show ((1 : Int)).toNat = 1 from rfl] at d4)
          replace p114 := eq_true p114; replace q114 := eq_true q114
          go_wp2
          go_meet
          case rel => exact ⟨_, (decide (((rdOf ByteArray.empty a5 1).size : Int) < 3)), (by first | rfl | (simp; done) | (simp [*]; done)), H', ⟨by have := HJ2.out; first | omega | exact Nat.le_refl _⟩, ⟨by first | exact b9.out | exact upR b9.out⟩, ⟨by (with_reducible repeat (first | apply Kd.R_alloc | apply Kd.R_drewN | apply yao)); exact Kd.R_mono c9.out (fun _ hk => trivial)⟩, ⟨by exact upB a3.out⟩, ⟨by repeat (with_reducible first | exact HB.out | apply yae | apply yab | apply yad | refine yaf ?_ (Aside0.out ‹_›))⟩⟩
         ·
          rw [if_neg c20] at H
          exact absurd H (by simp)
        ·
         rw [if_neg c19] at H
         have d0 := beq_eq_false_iff_ne.mpr c19; have e4 := bne_iff_ne.mpr c19
         (first | rw [d0] | (simp only [i64_w, i32_w]; rw [d0]) | skip)
         have H' := yaa H; clear H; obtain ⟨s6, s7, p5⟩ := Kd.R_slice c9.out; subst p5
         go_wp2
         go_meet
         case rel => exact ⟨_, (true), (by first | rfl | (simp; done) | (simp [*]; done)), H', ⟨by have := HJ2.out; first | omega | exact Nat.le_refl _⟩, ⟨by first | exact b9.out | exact upR b9.out⟩, ⟨by (with_reducible repeat (first | apply Kd.R_alloc | apply Kd.R_drewN | apply yao)); exact Kd.R_mono c9.out (fun _ hk => trivial)⟩, ⟨by exact upB a3.out⟩, ⟨by repeat (with_reducible first | exact HB.out | apply yae | apply yab | apply yad | refine yaf ?_ (Aside0.out ‹_›))⟩⟩
       ·
        replace c18 := Bool.eq_false_iff.mpr c18
        subst c18
        rw [if_neg (show ¬ (false = true) by decide)] at H
        have H' := yaa H; clear H
        go_wp2
        go_meet
        case rel => exact ⟨_, (true), (by first | rfl | (simp; done) | (simp [*]; done)), H', ⟨by have := HJ2.out; first | omega | exact Nat.le_refl _⟩, ⟨by first | exact b9.out | exact upR b9.out⟩, ⟨by (with_reducible repeat (first | apply Kd.R_alloc | apply Kd.R_drewN | apply yao)); exact Kd.R_mono c9.out (fun _ hk => trivial)⟩, ⟨by exact upB a3.out⟩, ⟨by repeat (with_reducible first | exact HB.out | apply yae | apply yab | apply yad | refine yaf ?_ (Aside0.out ‹_›))⟩⟩
      case rest =>
       clear HC14; (try clear c1); (try clear p1); (try clear q1); (try clear hx1); (try clear qi1); (try clear c2); (try clear p2); (try clear c4); (try clear c6); (try clear d8); (try clear e5); (try clear c8); (try clear c10); (try clear f3); (try clear f4); (try clear p10); (try clear q10); (try clear hx10); (try clear qi10); (try clear p11); (try clear q11); (try clear hx11); (try clear qi11); (try clear c12); (try clear f6); (try clear f7); (try clear c17); (try clear c18); (try clear c19); (try clear d0); (try clear e4); (try clear c20); (try clear f8); (try clear f9); (try clear e6); (try clear e7); (try clear e8); (try clear e9); (try clear f0); (try clear f1); (try clear d1); (try clear d2); (try clear d4); (try clear p105); (try clear p110); (try clear p114); (try clear p2); (try clear q105); (try clear q110); (try clear q114); obtain ⟨kq, d3, rfl, HA, HJ13, a8, a4, a3, HB⟩ := hcut
       cases kq with
       | zero => exact absurd HA.out (by simp [spec_AskRead.j1])
       | succ kj13 =>
        have H := HA.out; clear HA
        simp only [spec_AskRead.j1] at H
        by_cases c23 : d3 = true
        ·
         subst c23
         rw [if_pos rfl] at H
         simp only [Option.some.injEq, Prod.mk.injEq] at H
         obtain ⟨rfl, rfl, rfl, rfl⟩ := H; obtain ⟨h7, h8, h9⟩ := cc3_ a3.out; obtain ⟨i0, i1, i2⟩ := cf3_ a3.out
         go_wp2
         refine bodyPost_ret (results_ct rfl _ _ a9 37 #[.slice none 0 0, .string (⟨#[]⟩ : ByteArray), .int .i64 0] (0, 0) _ rfl (by (repeat refine oneB ?_); refine blk_put (cs := #[.slice none 0 0, .string (⟨#[]⟩ : ByteArray), .int .i64 0]) ?_ 2 _ rfl; refine blk_put (cs := #[.slice none 0 0, .string (⟨#[]⟩ : ByteArray), .int .i64 0]) ?_ 1 _ rfl; refine blk_put (cs := #[.slice none 0 0, .string (⟨#[]⟩ : ByteArray), .int .i64 0]) ?_ 0 _ rfl; exact upB a3.out) Tryd.underlying37 rfl (by kernel_rfl)) rfl ?_
         exact ⟨_, by first | rfl | (simp [*, errW_none, errW_some] <;> rfl), by first | exact Kd.R_nil _ _ _ _ _ | exact Kd.N_nil _ _ _ _ _ | exact Kd.V_nil _ _ _ _ _ | exact Kd.Q_nil _ _ _ _ _ | exact Kd.S_nil _ _ _ _ _, by repeat (with_reducible first | exact HB.out | apply yae | apply yab | apply yad | refine yaf ?_ (Aside0.out ‹_›))⟩
        ·
         replace c23 := Bool.eq_false_iff.mpr c23
         subst c23
         rw [if_neg (show ¬ (false = true) by decide)] at H
         by_cases c25 : 0 < (a5.length : Int)
         ·
          rw [if_pos c25] at H
          have p7 : decide (0 < (a5.length : Int)) = true := decide_eq_true c25; have p8 : decide (0 < a5.length) = true := decide_eq_true (by omega); clear c25
          by_cases c26 : 1 < (a5.length : Int)
          ·
           rw [if_pos c26] at H
           have p9 : decide (1 < (a5.length : Int)) = true := decide_eq_true c26; have q0 : decide (1 < a5.length) = true := decide_eq_true (by omega); clear c26
           by_cases c27 : 2 ≤ ((rdOf ByteArray.empty a5 1).size : Int)
           ·
            rw [if_pos c27] at H
            have q2 := eq_true c27; replace c27 := decide_eq_true c27; obtain ⟨b3, A28, H⟩ := bindA H; (try dsimp only at H); obtain ⟨e3, A29, H⟩ := bindA H; (try dsimp only at H)
            by_cases c30 : e3.toList = a0.toList
            ·
             rw [if_pos c30] at H
             have g0 := beq_iff_eq.mpr c30; have g1 := bne_eq_false_iff_eq.mpr c30; clear c30
             by_cases c31 : a0.toList = ([] : List UInt8)
             ·
              rw [if_pos c31] at H
              have g2 := beq_iff_eq.mpr c31; have g3 := bne_eq_false_iff_eq.mpr c31; clear c31
              simp only [Option.some.injEq, Prod.mk.injEq] at H
              obtain ⟨rfl, rfl, rfl, rfl⟩ := H
              try go_wp2
              replace a8 := yaa (yao a8.out); replace a4 := yaa (yao a4.out); replace a3 := yaa (blk_drew a3.out); replace HB := yaa (yad HB.out); obtain ⟨t0, g4, g5⟩ := Kd.R_slice a4.out
              (first | subst g5 | (injection g5 with f1_ f2_ f3_; have f4_ := f1_.symm; have f5_ := f3_.symm; clear f1_ f2_ f3_; subst f4_; subst f5_))
              have p115 : 0 ≤ (0 : Int) := (by omega); have q115 : 0 < (a5.length : Int) := of_decide_eq_true (by assumption); obtain ⟨ad115, e1, b1⟩ := Kd.at_string (yam a4.out).2.2 0 p115 q115
              cases e1
              have qi115 : (0 < a5.length) = True := eq_true (by omega)
              (try rw [show ((0 : Int)).toNat = 0 from rfl] at b1)
              (try rw [Addr.add_zero'] at b1)
              replace p115 := eq_true p115; replace q115 := eq_true q115; have p116 : 0 ≤ (1 : Int) := (by omega); have q116 : 1 < (a5.length : Int) := of_decide_eq_true (by assumption); obtain ⟨ad116, e2, b2⟩ := Kd.at_string (yam a4.out).2.2 1 p116 q116; obtain rfl : ad115 = ad116 := (by injection e2)
              (try simp only [show (1 : Int).toNat = 1 from rfl, Nat.reduceMul, Nat.reduceEqDiff, Go.Addr.add, ↓reduceIte] at b2)
              have qi116 : (1 < a5.length) = True := eq_true (by omega)
              (try rw [show ((1 : Int)).toNat = 1 from rfl] at b2)
              replace p116 := eq_true p116; replace q116 := eq_true q116
              obtain ⟨c5, c0, g6⟩ := Kd.R_slice a8.out
              (first | subst g6 | (injection g6 with f1_ f2_ f3_; have f4_ := f1_.symm; have f5_ := f3_.symm; clear f1_ f2_ f3_; subst f4_; subst f5_))
              refine start_ (n := 12) (S := fun w' => w'.cell? ad115 = some (.string (rdOf ByteArray.empty a5 0)) ∧ w'.cell? ⟨ad115.block, ad115.off + 1, none⟩ = some (.string (rdOf ByteArray.empty a5 1))) (ds := []) q17_0 (by kernel_rfl) rfl rfl ⟨b1, b2⟩ (fun hHeld => ?_); refine with_tabW spec_AskRead.tab8 spec_AskRead.bits8 (fun HT_ HW_ => ?_)
              generalize wc.drew = w32 at a8 a4 a3 HB b1 b2 hHeld ⊢
              refine pz_ 0 46 q17_1 HT_ (by kernel_rfl) ?_
              refine pz_ 1 47 q17_2 HT_ (by kernel_rfl) ?_
              refine pz_ 2 48 q17_3 HT_ (by kernel_rfl) ?_
              refine pz_ 4 50 q17_4 HT_ (by kernel_rfl) ?_
              refine pz_ 5 51 q17_5 HT_ (by kernel_rfl) ?_
              refine tz_ 3 49 q17_6 HT_ HW_ (by kernel_rfl) hHeld ?_
              refine tz_ 6 52 q17_7 HT_ HW_ (by kernel_rfl) hHeld ?_
              refine pz_ 7 53 q17_8 HT_ (by kernel_rfl) ?_
              refine join_ (σ := Nat) 1 q17_9 (fun s_ => [(54, .int .i64 b3), (8, .pointer (some ⟨s_, 0, none⟩)), (55, .agg #[.slice c5 b0.length c0, .string (rdOf ByteArray.empty a5 0), .int .i64 b3])]) (fun s_ w' => (w'.cell? ad115 = some (.string (rdOf ByteArray.empty a5 0)) ∧ w'.cell? ⟨ad115.block, ad115.off + 1, none⟩ = some (.string (rdOf ByteArray.empty a5 1))) ∧ (Kd.R k23 23 w' w.heap.size (fun _ => True) (.slice c5 b0.length c0) b0) ∧ (Kd.R Kd.string 9 w' w.heap.size (fun _ => True) (.slice (some ad115) a5.length g4) a5) ∧ (w'.heap[a9]? = some (.cells #[.slice none 0 0, .string (⟨#[]⟩ : ByteArray), .int .i64 0] 37 (0, 0))) ∧ (w'.heap[s_]? = some (.cells #[.slice none 0 0, .string (⟨#[]⟩ : ByteArray), .int .i64 0] 37 (0, 0))) ∧ (w.heap.size ≤ s_) ∧ (w.heap.size ≤ s_) ∧ (a9 ≠ s_) ∧ (s_ ≠ a9) ∧ (Below w.heap.size w w')) ?_ ?_
              rotate_left
              ·
               intro hCont
               refine two_ (i := 8) (j := 10) (Ni := some 54) (Nj := some 8) q17_10 q17_11 rfl rfl rfl rfl (two_of HT_.out (by kernel_rfl)) (by decide) (by decide) (fun K hK => ?_) (fun K hK => ?_)
               ·
                skip
                refine goes_ Tryd.func30 (by kernel_rfl) rfl #[.string ((rdOf ByteArray.empty a5 1).extract 2 (rdOf ByteArray.empty a5 1).size)] (by rfl) rfl rfl (by (try simp only [List.map_toArray, List.map_cons, List.map_nil]); first | done | rfl | (simp only [List.length_drop, List.length_take]; rfl)) ?_
                with_reducible refine (spec_l7Num.calls kj13 ((rdOf ByteArray.empty a5 1).extract 2 (rdOf ByteArray.empty a5 1).size) b3 _ A28.out).mono ?_
                rintro e w34 ⟨rfl, hb⟩; have HS0_ := (hb.cell (World.block_lt_of_cell? _ _ (hHeld.1))).trans (hHeld.1); have HS1_ := (hb.cell (World.block_lt_of_cell? _ _ (hHeld.2))).trans (hHeld.2); refine ⟨_, rfl, ?_⟩; have n0_ := yaa (yah (upR a8.out) hb); have n1_ := yaa (yah (upR a4.out) hb); have n2_ := yaa (yak (upB a3.out) hb)
                have n3_ := yaa (yal (by repeat (with_reducible first | exact HB.out | apply yae | apply yab | apply yad | refine yaf ?_ (Aside0.out ‹_›))) hb)
                clear a8; clear a4; clear a3; clear HB; have a8 := n0_; have a4 := n1_; have a3 := n2_; have HB := n3_; clear n0_ n1_ n2_ n3_; (try clear hb); (try clear hb2); (try clear hk); (try clear hi)
                refine hK.out _ _ ⟨HS0_, HS1_⟩ (fun hHeld => ?_)
                clear hK K
                refine norm_ (a' := ?_) ?_ ?_
                rotate_left
                ·
                 show Act.put _ (some 54) _ = _
                 simp only [Act.put, List.setIfInBounds_toArray, List.set_cons_zero, List.set_cons_succ, i64_w, i32_w]
                 rfl
                refine pz_ 9 55 q17_12 HT_ (by kernel_rfl) ?_
                refine one_ (i := 10) (N := some 8) q17_9 rfl rfl (one_of HT_.out (by kernel_rfl)) (by decide) (fun K hK => ?_)
                refine box_step ?hg (N := 8) ?hd (cs := #[.slice none 0 0, .string (⟨#[]⟩ : ByteArray), .int .i64 0]) (t := 37) ?hr ?_; (case hd => rfl); (case hg => rfl); (case hr => first | (go_simp; done) | (go_simp; rfl))
                intro a2 hg w36 hbox hb; have HS0_ := (hb.cell (World.block_lt_of_cell? _ _ (hHeld.1))).trans (hHeld.1); have HS1_ := (hb.cell (World.block_lt_of_cell? _ _ (hHeld.2))).trans (hHeld.2); have n0_ := yaa (yah (upR a8.out) hb); have n1_ := yaa (yah (upR a4.out) hb); have n2_ := yaa (yak (upB a3.out) hb)
                have n3_ := yaa (yal (by repeat (with_reducible first | exact HB.out | apply yae | apply yab | apply yad | refine yaf ?_ (Aside0.out ‹_›))) hb)
                have n4_ := yaa (hbox)
                have n5_ := yaa ((by rw [hg]; exact (yap (by repeat (with_reducible first | exact HB.out | apply yae | apply yab | apply yad | refine yaf ?_ (Aside0.out ‹_›)))) : w.heap.size ≤ a2))
                have n6_ := yaa ((by rw [hg]; exact (yap (by repeat (with_reducible first | exact HB.out | apply yae | apply yab | apply yad | refine yaf ?_ (Aside0.out ‹_›)))) : w.heap.size ≤ a2))
                have n7_ := yaa ((by rw [hg]; exact Nat.ne_of_lt (blk_lt (upB a3.out)) : a9 ≠ a2)); have n8_ := yaa ((by rw [hg]; exact Nat.ne_of_gt (blk_lt (upB a3.out)) : a2 ≠ a9)); clear a8; clear a4; clear a3; clear HB; have a8 := n0_; have a4 := n1_; have a3 := n2_; have HB := n3_; have a1 := n4_; have b5 := n5_; have b6 := n6_; have a6 := n7_; have a7 := n8_; clear n0_ n1_ n2_ n3_ n4_ n5_ n6_ n7_ n8_; clear hb hbox hg
                refine hK.out _ _ ⟨HS0_, HS1_⟩ (fun hHeld => ?_)
                clear hK K
                refine norm_ (a' := ?_) ?_ ?_
                rotate_left
                ·
                 show Act.put _ (some 8) _ = _
                 simp only [Act.put, List.setIfInBounds_toArray, List.set_cons_zero, List.set_cons_succ, i64_w, i32_w]
                 rfl
                exact norm_ (by simp only [putAll, Act.put, List.setIfInBounds_toArray, List.set_cons_zero, List.set_cons_succ]) (hCont (a2) _ ⟨hHeld, (upR a8.out), (upR a4.out), (upB a3.out), (upB a1.out), b5.out, b6.out, a6.out, a7.out, (by repeat (with_reducible first | exact HB.out | apply yae | apply yab | apply yad | refine yaf ?_ (Aside0.out ‹_›)))⟩)
               ·
                skip
                refine box_step ?hg (N := 8) ?hd (cs := #[.slice none 0 0, .string (⟨#[]⟩ : ByteArray), .int .i64 0]) (t := 37) ?hr ?_; (case hd => rfl); (case hg => rfl); (case hr => first | (go_simp; done) | (go_simp; rfl))
                intro a2 hg w34 hbox hb; have HS0_ := (hb.cell (World.block_lt_of_cell? _ _ (hHeld.1))).trans (hHeld.1); have HS1_ := (hb.cell (World.block_lt_of_cell? _ _ (hHeld.2))).trans (hHeld.2); have n0_ := yaa (yah (upR a8.out) hb); have n1_ := yaa (yah (upR a4.out) hb); have n2_ := yaa (yak (upB a3.out) hb)
                have n3_ := yaa (yal (by repeat (with_reducible first | exact HB.out | apply yae | apply yab | apply yad | refine yaf ?_ (Aside0.out ‹_›))) hb)
                have n4_ := yaa (hbox)
                have n5_ := yaa ((by rw [hg]; exact (yap (by repeat (with_reducible first | exact HB.out | apply yae | apply yab | apply yad | refine yaf ?_ (Aside0.out ‹_›)))) : w.heap.size ≤ a2))
                have n6_ := yaa ((by rw [hg]; exact (yap (by repeat (with_reducible first | exact HB.out | apply yae | apply yab | apply yad | refine yaf ?_ (Aside0.out ‹_›)))) : w.heap.size ≤ a2))
                have n7_ := yaa ((by rw [hg]; exact Nat.ne_of_lt (blk_lt (upB a3.out)) : a9 ≠ a2)); have n8_ := yaa ((by rw [hg]; exact Nat.ne_of_gt (blk_lt (upB a3.out)) : a2 ≠ a9)); clear a8; clear a4; clear a3; clear HB; have a8 := n0_; have a4 := n1_; have a3 := n2_; have HB := n3_; have a1 := n4_; have b5 := n5_; have b6 := n6_; have a6 := n7_; have a7 := n8_; clear n0_ n1_ n2_ n3_ n4_ n5_ n6_ n7_ n8_; clear hb hbox hg
                refine hK.out _ _ ⟨HS0_, HS1_⟩ (fun hHeld => ?_)
                clear hK K
                refine norm_ (a' := ?_) ?_ ?_
                rotate_left
                ·
                 show Act.put _ (some 8) _ = _
                 simp only [Act.put, List.setIfInBounds_toArray, List.set_cons_zero, List.set_cons_succ, i64_w, i32_w]
                 rfl
                refine one_ (i := 8) (N := some 54) q17_13 rfl rfl (one_of HT_.out (by kernel_rfl)) (by decide) (fun K hK => ?_)
                refine goes_ Tryd.func30 (by kernel_rfl) rfl #[.string ((rdOf ByteArray.empty a5 1).extract 2 (rdOf ByteArray.empty a5 1).size)] (by rfl) rfl rfl (by (try simp only [List.map_toArray, List.map_cons, List.map_nil]); first | done | rfl | (simp only [List.length_drop, List.length_take]; rfl)) ?_
                with_reducible refine (spec_l7Num.calls kj13 ((rdOf ByteArray.empty a5 1).extract 2 (rdOf ByteArray.empty a5 1).size) b3 _ A28.out).mono ?_
                rintro e w35 ⟨rfl, hb⟩; have HS0_ := (hb.cell (World.block_lt_of_cell? _ _ (hHeld.1))).trans (hHeld.1); have HS1_ := (hb.cell (World.block_lt_of_cell? _ _ (hHeld.2))).trans (hHeld.2); refine ⟨_, rfl, ?_⟩; have n0_ := yaa (yah (upR a8.out) hb); have n1_ := yaa (yah (upR a4.out) hb); have n2_ := yaa (yak (upB a3.out) hb); have n3_ := yaa (yak (upB a1.out) hb)
                have n4_ := yaa (yal (by repeat (with_reducible first | exact HB.out | apply yae | apply yab | apply yad | refine yaf ?_ (Aside0.out ‹_›))) hb)
                clear a8; clear a4; clear a3; clear a1; clear HB; have a8 := n0_; have a4 := n1_; have a3 := n2_; have a1 := n3_; have HB := n4_; clear n0_ n1_ n2_ n3_ n4_; (try clear hb); (try clear hb2); (try clear hk); (try clear hi); obtain ⟨t1, t2, g7⟩ := Kd.R_slice a8.out
                (first | subst g7 | (injection g7 with f1_ f2_ f3_; have f4_ := f1_.symm; have f5_ := f3_.symm; clear f1_ f2_ f3_; subst f4_; subst f5_))
                refine hK.out _ _ ⟨HS0_, HS1_⟩ (fun hHeld => ?_)
                clear hK K
                refine norm_ (a' := ?_) ?_ ?_
                rotate_left
                ·
                 show Act.put _ (some 54) _ = _
                 simp only [Act.put, List.setIfInBounds_toArray, List.set_cons_zero, List.set_cons_succ, i64_w, i32_w]
                 rfl
                refine pz_ 9 55 q17_9 HT_ (by kernel_rfl) ?_
                exact norm_ (by simp only [putAll, Act.put, List.setIfInBounds_toArray, List.set_cons_zero, List.set_cons_succ]) (hCont (a2) _ ⟨hHeld, (upR a8.out), (upR a4.out), (upB a3.out), (upB a1.out), b5.out, b6.out, a6.out, a7.out, (by repeat (with_reducible first | exact HB.out | apply yae | apply yab | apply yad | refine yaf ?_ (Aside0.out ‹_›)))⟩)
              rintro a2 w37 ⟨hS_, h0_, h1_, h2_, h3_, h4_, h5_, h6_, h7_, h8_⟩; have n0_ : yan (Kd.R k23 23 w37 w.heap.size (fun _ => True) (.slice c5 b0.length c0) b0) := ⟨h0_⟩; have n1_ : yan (Kd.R Kd.string 9 w37 w.heap.size (fun _ => True) (.slice (some ad115) a5.length g4) a5) := ⟨h1_⟩; have n2_ : yan (w37.heap[a9]? = some (.cells #[.slice none 0 0, .string (⟨#[]⟩ : ByteArray), .int .i64 0] 37 (0, 0))) := ⟨h2_⟩; have n3_ : yan (w37.heap[a2]? = some (.cells #[.slice none 0 0, .string (⟨#[]⟩ : ByteArray), .int .i64 0] 37 (0, 0))) := ⟨h3_⟩; have n4_ : yan (w.heap.size ≤ a2) := ⟨h4_⟩; have n5_ : yan (w.heap.size ≤ a2) := ⟨h5_⟩; have n6_ : yan (a9 ≠ a2) := ⟨h6_⟩; have n7_ : yan (a2 ≠ a9) := ⟨h7_⟩; have n8_ : yan (Below w.heap.size w w37) := ⟨h8_⟩; clear a8; clear a4; clear a3; clear HB; clear h0_ h1_ h2_ h3_ h4_ h5_ h6_ h7_ h8_; have a8 := n0_; have a4 := n1_; have a3 := n2_; have a1 := n3_; have b5 := n4_; have b6 := n5_; have a6 := n6_; have a7 := n7_; have HB := n8_; clear n0_ n1_ n2_ n3_ n4_ n5_ n6_ n7_ n8_; have hHeld : w37.cell? ad115 = some (.string (rdOf ByteArray.empty a5 0)) ∧ w37.cell? ⟨ad115.block, ad115.off + 1, none⟩ = some (.string (rdOf ByteArray.empty a5 1)) := hS_
              refine norm_ (a' := ?_) ?_ ?_
              rotate_left
              ·
               simp only [putAll, Act.put, List.setIfInBounds_toArray, List.set_cons_zero, List.set_cons_succ]
               rfl
              refine one_ (i := 11) (N := none) q17_14 rfl rfl (one_of HT_.out (by kernel_rfl)) (by decide) (fun K hK => ?_)
              have t3 : w37.cell? ⟨a2, 0, none⟩ = some (.slice none 0 0) := (blk_cell a1.out 0).trans rfl; have q3 := blk_frozen a1.out 0; have i3 := a6.out; have i4 := a7.out; have t4 : w37.cell? ⟨a2, 1, none⟩ = some (.string (⟨#[]⟩ : ByteArray)) := (blk_cell a1.out 1).trans rfl; have q4 := blk_frozen a1.out 1; have i5 := a6.out; have i6 := a7.out; have t5 : w37.cell? ⟨a2, 2, none⟩ = some (.int .i64 0) := (blk_cell a1.out 2).trans rfl; have q5 := blk_frozen a1.out 2; have i7 := a6.out; have i8 := a7.out
              refine skip_ (by rfl) rfl (st3_ (b := a2) (A := c5) (n := b0.length) (c := c0) (p := (rdOf ByteArray.empty a5 0)) (x := b3) rfl rfl a1.out) ?_
              have hne_ := yac (yag a4.out a1.out (by decide))
              refine hK.out _ _ ⟨cell3_ hne_ hHeld.1, cell3_ hne_ hHeld.2⟩ (fun hHeld => ?_)
              clear hK K
              refine done_ (done_of HT_.out (by kernel_rfl)) ?_
              have q6 := a7.out; have q7 := a6.out; obtain ⟨i9, j2, j3⟩ := cc3_ a1.out; obtain ⟨j4, j5, j6⟩ := cf3_ a1.out
              try go_wp2_with (first | ((with_reducible refine gd_ 56 rfl ?_); refine Kd.event_run rfl (ld3_ (b := a2) (A := c5) (n := b0.length) (c := c0) (p := (rdOf ByteArray.empty a5 0)) (x := b3) rfl (by (repeat refine oneB ?_); refine blk_put (cs := #[.slice c5 b0.length c0, .string (rdOf ByteArray.empty a5 0), .int .i64 0]) ?_ 2 _ rfl; refine blk_put (cs := #[.slice c5 b0.length c0, .string (⟨#[]⟩ : ByteArray), .int .i64 0]) ?_ 1 _ rfl; refine blk_put (cs := #[.slice none 0 0, .string (⟨#[]⟩ : ByteArray), .int .i64 0]) ?_ 0 _ rfl; exact upB a1.out)) ?_) | ((with_reducible refine gc_ 25 rfl ?_); refine gl_ (some 57) rfl Tryd.func25 #[.agg #[.slice c5 b0.length c0, .string (rdOf ByteArray.empty a5 0), .int .i64 b3]] ?_; (with_reducible refine (spec_AskText.calls kj13 _ _ b0 (rdOf ByteArray.empty a5 0) b3 e3 _ ?side1 ?side2 A29.out).mono ?_); (case side1 => refine (yam (e := 23) (base := w.heap.size) (ok := fun k_ => True) (n := b0.length) (c := c0) ?_).2.2; exact (by (with_reducible repeat (first | apply Kd.R_alloc | apply Kd.R_drewN | apply yao)); exact (Kd.R_mono (yaj (p := ⟨a2, 2, none⟩) (yaj (p := ⟨a2, 1, none⟩) (yaj (p := ⟨a2, 0, none⟩) (Kd.R_types a8.out a1.out (by decide)) (fun _ hk => hk.2) (.slice c5 b0.length c0)) (fun _ hk => hk.2) (.string (rdOf ByteArray.empty a5 0))) (fun _ hk => hk.2) (.int .i64 b3)) (fun _ h_ => h_.1)))); (case side2 => exact (yam a8.out).2.1); rintro e w43 ⟨rfl, hb⟩; refine ⟨_, rfl, ?_⟩; replace a8 := yaa (yah (by (with_reducible repeat (first | apply Kd.R_alloc | apply Kd.R_drewN | apply yao)); exact (Kd.R_mono (yaj (p := ⟨a2, 2, none⟩) (yaj (p := ⟨a2, 1, none⟩) (yaj (p := ⟨a2, 0, none⟩) (Kd.R_types a8.out a1.out (by decide)) (fun _ hk => hk.2) (.slice c5 b0.length c0)) (fun _ hk => hk.2) (.string (rdOf ByteArray.empty a5 0))) (fun _ hk => hk.2) (.int .i64 b3)) (fun _ h_ => h_.1))) hb); replace a4 := yaa (yah (by (with_reducible repeat (first | apply Kd.R_alloc | apply Kd.R_drewN | apply yao)); exact (Kd.R_mono (yaj (p := ⟨a2, 2, none⟩) (yaj (p := ⟨a2, 1, none⟩) (yaj (p := ⟨a2, 0, none⟩) (Kd.R_types a4.out a1.out (by decide)) (fun _ hk => hk.2) (.slice c5 b0.length c0)) (fun _ hk => hk.2) (.string (rdOf ByteArray.empty a5 0))) (fun _ hk => hk.2) (.int .i64 b3)) (fun _ h_ => h_.1))) hb); replace a3 := yaa (yak (g := a9) (o := .cells #[.slice none 0 0, .string (⟨#[]⟩ : ByteArray), .int .i64 0] 37 (0, 0)) (by repeat (with_reducible first | exact a3.out | refine oneB ?_ | refine blk_far ?_ a6.out _)) hb); replace a1 := yaa (yak (g := a2) (o := .cells #[.slice c5 b0.length c0, .string (rdOf ByteArray.empty a5 0), .int .i64 b3] 37 (0, 0)) (by (repeat refine oneB ?_); refine blk_put (cs := #[.slice c5 b0.length c0, .string (rdOf ByteArray.empty a5 0), .int .i64 0]) ?_ 2 _ rfl; refine blk_put (cs := #[.slice c5 b0.length c0, .string (⟨#[]⟩ : ByteArray), .int .i64 0]) ?_ 1 _ rfl; refine blk_put (cs := #[.slice none 0 0, .string (⟨#[]⟩ : ByteArray), .int .i64 0]) ?_ 0 _ rfl; exact upB a1.out) hb); replace HB := yaa (yal (by repeat (with_reducible first | exact HB.out | apply yae | apply yab | apply yad | refine yaf ?_ (Aside0.out ‹_›))) hb); (try clear hb); obtain ⟨j7, j8, j9⟩ := cc3_ a3.out; obtain ⟨k0, k1⟩ := cf2_ a3.out; have k2 := blk_frozen a3.out 2))
              refine bodyPost_ret (results_ct rfl _ _ a9 37 #[.slice none 0 0, .string (⟨#[]⟩ : ByteArray), .int .i64 0] (0, 0) _ rfl (by (repeat refine oneB ?_); refine blk_put (cs := #[.slice none 0 0, .string (⟨#[]⟩ : ByteArray), .int .i64 0]) ?_ 2 _ rfl; refine blk_put (cs := #[.slice none 0 0, .string (⟨#[]⟩ : ByteArray), .int .i64 0]) ?_ 1 _ rfl; refine blk_put (cs := #[.slice none 0 0, .string (⟨#[]⟩ : ByteArray), .int .i64 0]) ?_ 0 _ rfl; exact upB a3.out) Tryd.underlying37 rfl (by kernel_rfl)) rfl ?_
              exact ⟨_, by first | rfl | (simp [*, errW_none, errW_some] <;> rfl), by first | exact Kd.R_nil _ _ _ _ _ | exact Kd.N_nil _ _ _ _ _ | exact Kd.V_nil _ _ _ _ _ | exact Kd.Q_nil _ _ _ _ _ | exact Kd.S_nil _ _ _ _ _, by repeat (with_reducible first | exact HB.out | apply yae | apply yab | apply yad | refine yaf ?_ (Aside0.out ‹_›))⟩
             ·
              rw [if_neg c31] at H
              have g2 := beq_eq_false_iff_ne.mpr c31; have g3 := bne_iff_ne.mpr c31
              simp only [Option.some.injEq, Prod.mk.injEq] at H
              obtain ⟨rfl, rfl, rfl, rfl⟩ := H
              try go_wp2
              replace a8 := yaa (yao a8.out); replace a4 := yaa (yao a4.out); replace a3 := yaa (blk_drew a3.out); replace HB := yaa (yad HB.out); obtain ⟨t6, g9, h0⟩ := Kd.R_slice a4.out
              (first | subst h0 | (injection h0 with f1_ f2_ f3_; have f4_ := f1_.symm; have f5_ := f3_.symm; clear f1_ f2_ f3_; subst f4_; subst f5_))
              have p115 : 0 ≤ (0 : Int) := (by omega); have q115 : 0 < (a5.length : Int) := of_decide_eq_true (by assumption); obtain ⟨ad115, e1, b1⟩ := Kd.at_string (yam a4.out).2.2 0 p115 q115
              cases e1
              have qi115 : (0 < a5.length) = True := eq_true (by omega)
              (try rw [show ((0 : Int)).toNat = 0 from rfl] at b1)
              (try rw [Addr.add_zero'] at b1)
              replace p115 := eq_true p115; replace q115 := eq_true q115; have p116 : 0 ≤ (1 : Int) := (by omega); have q116 : 1 < (a5.length : Int) := of_decide_eq_true (by assumption); obtain ⟨ad116, e2, b2⟩ := Kd.at_string (yam a4.out).2.2 1 p116 q116; obtain rfl : ad115 = ad116 := (by injection e2)
              (try simp only [show (1 : Int).toNat = 1 from rfl, Nat.reduceMul, Nat.reduceEqDiff, Go.Addr.add, ↓reduceIte] at b2)
              have qi116 : (1 < a5.length) = True := eq_true (by omega)
              (try rw [show ((1 : Int)).toNat = 1 from rfl] at b2)
              replace p116 := eq_true p116; replace q116 := eq_true q116
              obtain ⟨b8, b7, h1⟩ := Kd.R_slice a8.out
              (first | subst h1 | (injection h1 with f1_ f2_ f3_; have f4_ := f1_.symm; have f5_ := f3_.symm; clear f1_ f2_ f3_; subst f4_; subst f5_))
              refine start_ (n := 12) (S := fun w' => w'.cell? ad115 = some (.string (rdOf ByteArray.empty a5 0)) ∧ w'.cell? ⟨ad115.block, ad115.off + 1, none⟩ = some (.string (rdOf ByteArray.empty a5 1))) (ds := []) q17_0 (by kernel_rfl) rfl rfl ⟨b1, b2⟩ (fun hHeld => ?_); refine with_tabW spec_AskRead.tab8 spec_AskRead.bits8 (fun HT_ HW_ => ?_)
              generalize wc.drew = w45 at a8 a4 a3 HB b1 b2 hHeld ⊢
              refine pz_ 0 46 q17_1 HT_ (by kernel_rfl) ?_
              refine pz_ 1 47 q17_2 HT_ (by kernel_rfl) ?_
              refine pz_ 2 48 q17_3 HT_ (by kernel_rfl) ?_
              refine pz_ 4 50 q17_4 HT_ (by kernel_rfl) ?_
              refine pz_ 5 51 q17_5 HT_ (by kernel_rfl) ?_
              refine tz_ 3 49 q17_6 HT_ HW_ (by kernel_rfl) hHeld ?_
              refine tz_ 6 52 q17_7 HT_ HW_ (by kernel_rfl) hHeld ?_
              refine pz_ 7 53 q17_8 HT_ (by kernel_rfl) ?_
              refine join_ (σ := Nat) 1 q17_9 (fun s_ => [(54, .int .i64 b3), (8, .pointer (some ⟨s_, 0, none⟩)), (55, .agg #[.slice b8 b0.length b7, .string (rdOf ByteArray.empty a5 0), .int .i64 b3])]) (fun s_ w' => (w'.cell? ad115 = some (.string (rdOf ByteArray.empty a5 0)) ∧ w'.cell? ⟨ad115.block, ad115.off + 1, none⟩ = some (.string (rdOf ByteArray.empty a5 1))) ∧ (Kd.R k23 23 w' w.heap.size (fun _ => True) (.slice b8 b0.length b7) b0) ∧ (Kd.R Kd.string 9 w' w.heap.size (fun _ => True) (.slice (some ad115) a5.length g9) a5) ∧ (w'.heap[a9]? = some (.cells #[.slice none 0 0, .string (⟨#[]⟩ : ByteArray), .int .i64 0] 37 (0, 0))) ∧ (w'.heap[s_]? = some (.cells #[.slice none 0 0, .string (⟨#[]⟩ : ByteArray), .int .i64 0] 37 (0, 0))) ∧ (w.heap.size ≤ s_) ∧ (w.heap.size ≤ s_) ∧ (a9 ≠ s_) ∧ (s_ ≠ a9) ∧ (Below w.heap.size w w')) ?_ ?_
              rotate_left
              ·
               intro hCont
               refine two_ (i := 8) (j := 10) (Ni := some 54) (Nj := some 8) q17_10 q17_11 rfl rfl rfl rfl (two_of HT_.out (by kernel_rfl)) (by decide) (by decide) (fun K hK => ?_) (fun K hK => ?_)
               ·
                skip
                refine goes_ Tryd.func30 (by kernel_rfl) rfl #[.string ((rdOf ByteArray.empty a5 1).extract 2 (rdOf ByteArray.empty a5 1).size)] (by rfl) rfl rfl (by (try simp only [List.map_toArray, List.map_cons, List.map_nil]); first | done | rfl | (simp only [List.length_drop, List.length_take]; rfl)) ?_
                with_reducible refine (spec_l7Num.calls kj13 ((rdOf ByteArray.empty a5 1).extract 2 (rdOf ByteArray.empty a5 1).size) b3 _ A28.out).mono ?_
                rintro e w47 ⟨rfl, hb⟩; have HS0_ := (hb.cell (World.block_lt_of_cell? _ _ (hHeld.1))).trans (hHeld.1); have HS1_ := (hb.cell (World.block_lt_of_cell? _ _ (hHeld.2))).trans (hHeld.2); refine ⟨_, rfl, ?_⟩; have n0_ := yaa (yah (upR a8.out) hb); have n1_ := yaa (yah (upR a4.out) hb); have n2_ := yaa (yak (upB a3.out) hb)
                have n3_ := yaa (yal (by repeat (with_reducible first | exact HB.out | apply yae | apply yab | apply yad | refine yaf ?_ (Aside0.out ‹_›))) hb)
                clear a8; clear a4; clear a3; clear HB; have a8 := n0_; have a4 := n1_; have a3 := n2_; have HB := n3_; clear n0_ n1_ n2_ n3_; (try clear hb); (try clear hb2); (try clear hk); (try clear hi)
                refine hK.out _ _ ⟨HS0_, HS1_⟩ (fun hHeld => ?_)
                clear hK K
                refine norm_ (a' := ?_) ?_ ?_
                rotate_left
                ·
                 show Act.put _ (some 54) _ = _
                 simp only [Act.put, List.setIfInBounds_toArray, List.set_cons_zero, List.set_cons_succ, i64_w, i32_w]
                 rfl
                refine pz_ 9 55 q17_12 HT_ (by kernel_rfl) ?_
                refine one_ (i := 10) (N := some 8) q17_9 rfl rfl (one_of HT_.out (by kernel_rfl)) (by decide) (fun K hK => ?_)
                refine box_step ?hg (N := 8) ?hd (cs := #[.slice none 0 0, .string (⟨#[]⟩ : ByteArray), .int .i64 0]) (t := 37) ?hr ?_; (case hd => rfl); (case hg => rfl); (case hr => first | (go_simp; done) | (go_simp; rfl))
                intro a2 hg w49 hbox hb; have HS0_ := (hb.cell (World.block_lt_of_cell? _ _ (hHeld.1))).trans (hHeld.1); have HS1_ := (hb.cell (World.block_lt_of_cell? _ _ (hHeld.2))).trans (hHeld.2); have n0_ := yaa (yah (upR a8.out) hb); have n1_ := yaa (yah (upR a4.out) hb); have n2_ := yaa (yak (upB a3.out) hb)
                have n3_ := yaa (yal (by repeat (with_reducible first | exact HB.out | apply yae | apply yab | apply yad | refine yaf ?_ (Aside0.out ‹_›))) hb)
                have n4_ := yaa (hbox)
                have n5_ := yaa ((by rw [hg]; exact (yap (by repeat (with_reducible first | exact HB.out | apply yae | apply yab | apply yad | refine yaf ?_ (Aside0.out ‹_›)))) : w.heap.size ≤ a2))
                have n6_ := yaa ((by rw [hg]; exact (yap (by repeat (with_reducible first | exact HB.out | apply yae | apply yab | apply yad | refine yaf ?_ (Aside0.out ‹_›)))) : w.heap.size ≤ a2))
                have n7_ := yaa ((by rw [hg]; exact Nat.ne_of_lt (blk_lt (upB a3.out)) : a9 ≠ a2)); have n8_ := yaa ((by rw [hg]; exact Nat.ne_of_gt (blk_lt (upB a3.out)) : a2 ≠ a9)); clear a8; clear a4; clear a3; clear HB; have a8 := n0_; have a4 := n1_; have a3 := n2_; have HB := n3_; have a1 := n4_; have b5 := n5_; have b6 := n6_; have a6 := n7_; have a7 := n8_; clear n0_ n1_ n2_ n3_ n4_ n5_ n6_ n7_ n8_; clear hb hbox hg
                refine hK.out _ _ ⟨HS0_, HS1_⟩ (fun hHeld => ?_)
                clear hK K
                refine norm_ (a' := ?_) ?_ ?_
                rotate_left
                ·
                 show Act.put _ (some 8) _ = _
                 simp only [Act.put, List.setIfInBounds_toArray, List.set_cons_zero, List.set_cons_succ, i64_w, i32_w]
                 rfl
                exact norm_ (by simp only [putAll, Act.put, List.setIfInBounds_toArray, List.set_cons_zero, List.set_cons_succ]) (hCont (a2) _ ⟨hHeld, (upR a8.out), (upR a4.out), (upB a3.out), (upB a1.out), b5.out, b6.out, a6.out, a7.out, (by repeat (with_reducible first | exact HB.out | apply yae | apply yab | apply yad | refine yaf ?_ (Aside0.out ‹_›)))⟩)
               ·
                skip
                refine box_step ?hg (N := 8) ?hd (cs := #[.slice none 0 0, .string (⟨#[]⟩ : ByteArray), .int .i64 0]) (t := 37) ?hr ?_; (case hd => rfl); (case hg => rfl); (case hr => first | (go_simp; done) | (go_simp; rfl))
                intro a2 hg w47 hbox hb; have HS0_ := (hb.cell (World.block_lt_of_cell? _ _ (hHeld.1))).trans (hHeld.1); have HS1_ := (hb.cell (World.block_lt_of_cell? _ _ (hHeld.2))).trans (hHeld.2); have n0_ := yaa (yah (upR a8.out) hb); have n1_ := yaa (yah (upR a4.out) hb); have n2_ := yaa (yak (upB a3.out) hb)
                have n3_ := yaa (yal (by repeat (with_reducible first | exact HB.out | apply yae | apply yab | apply yad | refine yaf ?_ (Aside0.out ‹_›))) hb)
                have n4_ := yaa (hbox)
                have n5_ := yaa ((by rw [hg]; exact (yap (by repeat (with_reducible first | exact HB.out | apply yae | apply yab | apply yad | refine yaf ?_ (Aside0.out ‹_›)))) : w.heap.size ≤ a2))
                have n6_ := yaa ((by rw [hg]; exact (yap (by repeat (with_reducible first | exact HB.out | apply yae | apply yab | apply yad | refine yaf ?_ (Aside0.out ‹_›)))) : w.heap.size ≤ a2))
                have n7_ := yaa ((by rw [hg]; exact Nat.ne_of_lt (blk_lt (upB a3.out)) : a9 ≠ a2)); have n8_ := yaa ((by rw [hg]; exact Nat.ne_of_gt (blk_lt (upB a3.out)) : a2 ≠ a9)); clear a8; clear a4; clear a3; clear HB; have a8 := n0_; have a4 := n1_; have a3 := n2_; have HB := n3_; have a1 := n4_; have b5 := n5_; have b6 := n6_; have a6 := n7_; have a7 := n8_; clear n0_ n1_ n2_ n3_ n4_ n5_ n6_ n7_ n8_; clear hb hbox hg
                refine hK.out _ _ ⟨HS0_, HS1_⟩ (fun hHeld => ?_)
                clear hK K
                refine norm_ (a' := ?_) ?_ ?_
                rotate_left
                ·
                 show Act.put _ (some 8) _ = _
                 simp only [Act.put, List.setIfInBounds_toArray, List.set_cons_zero, List.set_cons_succ, i64_w, i32_w]
                 rfl
                refine one_ (i := 8) (N := some 54) q17_13 rfl rfl (one_of HT_.out (by kernel_rfl)) (by decide) (fun K hK => ?_)
                refine goes_ Tryd.func30 (by kernel_rfl) rfl #[.string ((rdOf ByteArray.empty a5 1).extract 2 (rdOf ByteArray.empty a5 1).size)] (by rfl) rfl rfl (by (try simp only [List.map_toArray, List.map_cons, List.map_nil]); first | done | rfl | (simp only [List.length_drop, List.length_take]; rfl)) ?_
                with_reducible refine (spec_l7Num.calls kj13 ((rdOf ByteArray.empty a5 1).extract 2 (rdOf ByteArray.empty a5 1).size) b3 _ A28.out).mono ?_
                rintro e w48 ⟨rfl, hb⟩; have HS0_ := (hb.cell (World.block_lt_of_cell? _ _ (hHeld.1))).trans (hHeld.1); have HS1_ := (hb.cell (World.block_lt_of_cell? _ _ (hHeld.2))).trans (hHeld.2); refine ⟨_, rfl, ?_⟩; have n0_ := yaa (yah (upR a8.out) hb); have n1_ := yaa (yah (upR a4.out) hb); have n2_ := yaa (yak (upB a3.out) hb); have n3_ := yaa (yak (upB a1.out) hb)
                have n4_ := yaa (yal (by repeat (with_reducible first | exact HB.out | apply yae | apply yab | apply yad | refine yaf ?_ (Aside0.out ‹_›))) hb)
                clear a8; clear a4; clear a3; clear a1; clear HB; have a8 := n0_; have a4 := n1_; have a3 := n2_; have a1 := n3_; have HB := n4_; clear n0_ n1_ n2_ n3_ n4_; (try clear hb); (try clear hb2); (try clear hk); (try clear hi); obtain ⟨t7, t8, h2⟩ := Kd.R_slice a8.out
                (first | subst h2 | (injection h2 with f1_ f2_ f3_; have f4_ := f1_.symm; have f5_ := f3_.symm; clear f1_ f2_ f3_; subst f4_; subst f5_))
                refine hK.out _ _ ⟨HS0_, HS1_⟩ (fun hHeld => ?_)
                clear hK K
                refine norm_ (a' := ?_) ?_ ?_
                rotate_left
                ·
                 show Act.put _ (some 54) _ = _
                 simp only [Act.put, List.setIfInBounds_toArray, List.set_cons_zero, List.set_cons_succ, i64_w, i32_w]
                 rfl
                refine pz_ 9 55 q17_9 HT_ (by kernel_rfl) ?_
                exact norm_ (by simp only [putAll, Act.put, List.setIfInBounds_toArray, List.set_cons_zero, List.set_cons_succ]) (hCont (a2) _ ⟨hHeld, (upR a8.out), (upR a4.out), (upB a3.out), (upB a1.out), b5.out, b6.out, a6.out, a7.out, (by repeat (with_reducible first | exact HB.out | apply yae | apply yab | apply yad | refine yaf ?_ (Aside0.out ‹_›)))⟩)
              rintro a2 w50 ⟨hS_, h0_, h1_, h2_, h3_, h4_, h5_, h6_, h7_, h8_⟩; have n0_ : yan (Kd.R k23 23 w50 w.heap.size (fun _ => True) (.slice b8 b0.length b7) b0) := ⟨h0_⟩; have n1_ : yan (Kd.R Kd.string 9 w50 w.heap.size (fun _ => True) (.slice (some ad115) a5.length g9) a5) := ⟨h1_⟩; have n2_ : yan (w50.heap[a9]? = some (.cells #[.slice none 0 0, .string (⟨#[]⟩ : ByteArray), .int .i64 0] 37 (0, 0))) := ⟨h2_⟩; have n3_ : yan (w50.heap[a2]? = some (.cells #[.slice none 0 0, .string (⟨#[]⟩ : ByteArray), .int .i64 0] 37 (0, 0))) := ⟨h3_⟩; have n4_ : yan (w.heap.size ≤ a2) := ⟨h4_⟩; have n5_ : yan (w.heap.size ≤ a2) := ⟨h5_⟩; have n6_ : yan (a9 ≠ a2) := ⟨h6_⟩; have n7_ : yan (a2 ≠ a9) := ⟨h7_⟩; have n8_ : yan (Below w.heap.size w w50) := ⟨h8_⟩; clear a8; clear a4; clear a3; clear HB; clear h0_ h1_ h2_ h3_ h4_ h5_ h6_ h7_ h8_; have a8 := n0_; have a4 := n1_; have a3 := n2_; have a1 := n3_; have b5 := n4_; have b6 := n5_; have a6 := n6_; have a7 := n7_; have HB := n8_; clear n0_ n1_ n2_ n3_ n4_ n5_ n6_ n7_ n8_; have hHeld : w50.cell? ad115 = some (.string (rdOf ByteArray.empty a5 0)) ∧ w50.cell? ⟨ad115.block, ad115.off + 1, none⟩ = some (.string (rdOf ByteArray.empty a5 1)) := hS_
              refine norm_ (a' := ?_) ?_ ?_
              rotate_left
              ·
               simp only [putAll, Act.put, List.setIfInBounds_toArray, List.set_cons_zero, List.set_cons_succ]
               rfl
              refine one_ (i := 11) (N := none) q17_14 rfl rfl (one_of HT_.out (by kernel_rfl)) (by decide) (fun K hK => ?_)
              have t9 : w50.cell? ⟨a2, 0, none⟩ = some (.slice none 0 0) := (blk_cell a1.out 0).trans rfl; have q8 := blk_frozen a1.out 0; have k3 := a6.out; have k4 := a7.out; have u0 : w50.cell? ⟨a2, 1, none⟩ = some (.string (⟨#[]⟩ : ByteArray)) := (blk_cell a1.out 1).trans rfl; have q9 := blk_frozen a1.out 1; have k5 := a6.out; have k6 := a7.out; have u1 : w50.cell? ⟨a2, 2, none⟩ = some (.int .i64 0) := (blk_cell a1.out 2).trans rfl; have r0 := blk_frozen a1.out 2; have k7 := a6.out; have k8 := a7.out
              refine skip_ (by rfl) rfl (st3_ (b := a2) (A := b8) (n := b0.length) (c := b7) (p := (rdOf ByteArray.empty a5 0)) (x := b3) rfl rfl a1.out) ?_
              have hne_ := yac (yag a4.out a1.out (by decide))
              refine hK.out _ _ ⟨cell3_ hne_ hHeld.1, cell3_ hne_ hHeld.2⟩ (fun hHeld => ?_)
              clear hK K
              refine done_ (done_of HT_.out (by kernel_rfl)) ?_
              have r5 := a7.out; have r6 := a6.out; obtain ⟨k9, l0, l1⟩ := cc3_ a1.out; obtain ⟨l2, l3, l4⟩ := cf3_ a1.out
              try go_wp2_with (first | ((with_reducible refine gd_ 56 rfl ?_); refine Kd.event_run rfl (ld3_ (b := a2) (A := b8) (n := b0.length) (c := b7) (p := (rdOf ByteArray.empty a5 0)) (x := b3) rfl (by (repeat refine oneB ?_); refine blk_put (cs := #[.slice b8 b0.length b7, .string (rdOf ByteArray.empty a5 0), .int .i64 0]) ?_ 2 _ rfl; refine blk_put (cs := #[.slice b8 b0.length b7, .string (⟨#[]⟩ : ByteArray), .int .i64 0]) ?_ 1 _ rfl; refine blk_put (cs := #[.slice none 0 0, .string (⟨#[]⟩ : ByteArray), .int .i64 0]) ?_ 0 _ rfl; exact upB a1.out)) ?_) | ((with_reducible refine gc_ 25 rfl ?_); refine gl_ (some 57) rfl Tryd.func25 #[.agg #[.slice b8 b0.length b7, .string (rdOf ByteArray.empty a5 0), .int .i64 b3]] ?_; (with_reducible refine (spec_AskText.calls kj13 _ _ b0 (rdOf ByteArray.empty a5 0) b3 e3 _ ?side1 ?side2 A29.out).mono ?_); (case side1 => refine (yam (e := 23) (base := w.heap.size) (ok := fun k_ => True) (n := b0.length) (c := b7) ?_).2.2; exact (by (with_reducible repeat (first | apply Kd.R_alloc | apply Kd.R_drewN | apply yao)); exact (Kd.R_mono (yaj (p := ⟨a2, 2, none⟩) (yaj (p := ⟨a2, 1, none⟩) (yaj (p := ⟨a2, 0, none⟩) (Kd.R_types a8.out a1.out (by decide)) (fun _ hk => hk.2) (.slice b8 b0.length b7)) (fun _ hk => hk.2) (.string (rdOf ByteArray.empty a5 0))) (fun _ hk => hk.2) (.int .i64 b3)) (fun _ h_ => h_.1)))); (case side2 => exact (yam a8.out).2.1); rintro e w56 ⟨rfl, hb⟩; refine ⟨_, rfl, ?_⟩; replace a8 := yaa (yah (by (with_reducible repeat (first | apply Kd.R_alloc | apply Kd.R_drewN | apply yao)); exact (Kd.R_mono (yaj (p := ⟨a2, 2, none⟩) (yaj (p := ⟨a2, 1, none⟩) (yaj (p := ⟨a2, 0, none⟩) (Kd.R_types a8.out a1.out (by decide)) (fun _ hk => hk.2) (.slice b8 b0.length b7)) (fun _ hk => hk.2) (.string (rdOf ByteArray.empty a5 0))) (fun _ hk => hk.2) (.int .i64 b3)) (fun _ h_ => h_.1))) hb); replace a4 := yaa (yah (by (with_reducible repeat (first | apply Kd.R_alloc | apply Kd.R_drewN | apply yao)); exact (Kd.R_mono (yaj (p := ⟨a2, 2, none⟩) (yaj (p := ⟨a2, 1, none⟩) (yaj (p := ⟨a2, 0, none⟩) (Kd.R_types a4.out a1.out (by decide)) (fun _ hk => hk.2) (.slice b8 b0.length b7)) (fun _ hk => hk.2) (.string (rdOf ByteArray.empty a5 0))) (fun _ hk => hk.2) (.int .i64 b3)) (fun _ h_ => h_.1))) hb); replace a3 := yaa (yak (g := a9) (o := .cells #[.slice none 0 0, .string (⟨#[]⟩ : ByteArray), .int .i64 0] 37 (0, 0)) (by repeat (with_reducible first | exact a3.out | refine oneB ?_ | refine blk_far ?_ a6.out _)) hb); replace a1 := yaa (yak (g := a2) (o := .cells #[.slice b8 b0.length b7, .string (rdOf ByteArray.empty a5 0), .int .i64 b3] 37 (0, 0)) (by (repeat refine oneB ?_); refine blk_put (cs := #[.slice b8 b0.length b7, .string (rdOf ByteArray.empty a5 0), .int .i64 0]) ?_ 2 _ rfl; refine blk_put (cs := #[.slice b8 b0.length b7, .string (⟨#[]⟩ : ByteArray), .int .i64 0]) ?_ 1 _ rfl; refine blk_put (cs := #[.slice none 0 0, .string (⟨#[]⟩ : ByteArray), .int .i64 0]) ?_ 0 _ rfl; exact upB a1.out) hb); replace HB := yaa (yal (by repeat (with_reducible first | exact HB.out | apply yae | apply yab | apply yad | refine yaf ?_ (Aside0.out ‹_›))) hb); (try clear hb); obtain ⟨l5, l6, l7⟩ := cc3_ a1.out; obtain ⟨l8, l9, m0⟩ := cf3_ a1.out; obtain ⟨m1, m2, m3⟩ := cc3_ a3.out; obtain ⟨m4, m5⟩ := cf2_ a3.out; have m6 := blk_frozen a3.out 2))
              refine bodyPost_ret (results_ct rfl _ _ a9 37 #[.slice b8 b0.length b7, .string (rdOf ByteArray.empty a5 0), .int .i64 b3] (0, 0) _ rfl (by (repeat refine oneB ?_); refine blk_put (cs := #[.slice b8 b0.length b7, .string (rdOf ByteArray.empty a5 0), .int .i64 0]) ?_ 2 _ rfl; refine blk_put (cs := #[.slice b8 b0.length b7, .string (⟨#[]⟩ : ByteArray), .int .i64 0]) ?_ 1 _ rfl; refine blk_put (cs := #[.slice none 0 0, .string (⟨#[]⟩ : ByteArray), .int .i64 0]) ?_ 0 _ rfl; exact upB a3.out) Tryd.underlying37 rfl (by kernel_rfl)) rfl ?_
              exact ⟨_, by first | rfl | (simp [*, errW_none, errW_some] <;> rfl), by (with_reducible repeat (first | apply Kd.R_alloc | apply Kd.R_drewN | apply yao)); exact Kd.R_mono (yaj (p := ⟨a9, 2, none⟩) (yaj (p := ⟨a9, 1, none⟩) (yaj (p := ⟨a9, 0, none⟩) (Kd.R_types a8.out a3.out (by decide)) (fun _ hk => hk.2) (.slice b8 b0.length b7)) (fun _ hk => hk.2) (.string (rdOf ByteArray.empty a5 0))) (fun _ hk => hk.2) (.int .i64 b3)) (fun _ hk => trivial), by repeat (with_reducible first | exact HB.out | apply yae | apply yab | apply yad | refine yaf ?_ (Aside0.out ‹_›))⟩
            ·
             rw [if_neg c30] at H
             have g0 := beq_eq_false_iff_ne.mpr c30; have g1 := bne_iff_ne.mpr c30
             simp only [Option.some.injEq, Prod.mk.injEq] at H
             obtain ⟨rfl, rfl, rfl, rfl⟩ := H
             try go_wp2
             replace a8 := yaa (yao a8.out); replace a4 := yaa (yao a4.out); replace a3 := yaa (blk_drew a3.out); replace HB := yaa (yad HB.out); obtain ⟨u2, h3, h4⟩ := Kd.R_slice a4.out
             (first | subst h4 | (injection h4 with f1_ f2_ f3_; have f4_ := f1_.symm; have f5_ := f3_.symm; clear f1_ f2_ f3_; subst f4_; subst f5_))
             have p115 : 0 ≤ (0 : Int) := (by omega); have q115 : 0 < (a5.length : Int) := of_decide_eq_true (by assumption); obtain ⟨ad115, e1, b1⟩ := Kd.at_string (yam a4.out).2.2 0 p115 q115
             cases e1
             have qi115 : (0 < a5.length) = True := eq_true (by omega)
             (try rw [show ((0 : Int)).toNat = 0 from rfl] at b1)
             (try rw [Addr.add_zero'] at b1)
             replace p115 := eq_true p115; replace q115 := eq_true q115; have p116 : 0 ≤ (1 : Int) := (by omega); have q116 : 1 < (a5.length : Int) := of_decide_eq_true (by assumption); obtain ⟨ad116, e2, b2⟩ := Kd.at_string (yam a4.out).2.2 1 p116 q116; obtain rfl : ad115 = ad116 := (by injection e2)
             (try simp only [show (1 : Int).toNat = 1 from rfl, Nat.reduceMul, Nat.reduceEqDiff, Go.Addr.add, ↓reduceIte] at b2)
             have qi116 : (1 < a5.length) = True := eq_true (by omega)
             (try rw [show ((1 : Int)).toNat = 1 from rfl] at b2)
             replace p116 := eq_true p116; replace q116 := eq_true q116
             obtain ⟨c7, c3, h5⟩ := Kd.R_slice a8.out
             (first | subst h5 | (injection h5 with f1_ f2_ f3_; have f4_ := f1_.symm; have f5_ := f3_.symm; clear f1_ f2_ f3_; subst f4_; subst f5_))
             refine start_ (n := 12) (S := fun w' => w'.cell? ad115 = some (.string (rdOf ByteArray.empty a5 0)) ∧ w'.cell? ⟨ad115.block, ad115.off + 1, none⟩ = some (.string (rdOf ByteArray.empty a5 1))) (ds := []) q17_0 (by kernel_rfl) rfl rfl ⟨b1, b2⟩ (fun hHeld => ?_); refine with_tabW spec_AskRead.tab8 spec_AskRead.bits8 (fun HT_ HW_ => ?_)
             generalize wc.drew = w59 at a8 a4 a3 HB b1 b2 hHeld ⊢
             refine pz_ 0 46 q17_1 HT_ (by kernel_rfl) ?_
             refine pz_ 1 47 q17_2 HT_ (by kernel_rfl) ?_
             refine pz_ 2 48 q17_3 HT_ (by kernel_rfl) ?_
             refine pz_ 4 50 q17_4 HT_ (by kernel_rfl) ?_
             refine pz_ 5 51 q17_5 HT_ (by kernel_rfl) ?_
             refine tz_ 3 49 q17_6 HT_ HW_ (by kernel_rfl) hHeld ?_
             refine tz_ 6 52 q17_7 HT_ HW_ (by kernel_rfl) hHeld ?_
             refine pz_ 7 53 q17_8 HT_ (by kernel_rfl) ?_
             refine join_ (σ := Nat) 1 q17_9 (fun s_ => [(54, .int .i64 b3), (8, .pointer (some ⟨s_, 0, none⟩)), (55, .agg #[.slice c7 b0.length c3, .string (rdOf ByteArray.empty a5 0), .int .i64 b3])]) (fun s_ w' => (w'.cell? ad115 = some (.string (rdOf ByteArray.empty a5 0)) ∧ w'.cell? ⟨ad115.block, ad115.off + 1, none⟩ = some (.string (rdOf ByteArray.empty a5 1))) ∧ (Kd.R k23 23 w' w.heap.size (fun _ => True) (.slice c7 b0.length c3) b0) ∧ (Kd.R Kd.string 9 w' w.heap.size (fun _ => True) (.slice (some ad115) a5.length h3) a5) ∧ (w'.heap[a9]? = some (.cells #[.slice none 0 0, .string (⟨#[]⟩ : ByteArray), .int .i64 0] 37 (0, 0))) ∧ (w'.heap[s_]? = some (.cells #[.slice none 0 0, .string (⟨#[]⟩ : ByteArray), .int .i64 0] 37 (0, 0))) ∧ (w.heap.size ≤ s_) ∧ (w.heap.size ≤ s_) ∧ (a9 ≠ s_) ∧ (s_ ≠ a9) ∧ (Below w.heap.size w w')) ?_ ?_
             rotate_left
             ·
              intro hCont
              refine two_ (i := 8) (j := 10) (Ni := some 54) (Nj := some 8) q17_10 q17_11 rfl rfl rfl rfl (two_of HT_.out (by kernel_rfl)) (by decide) (by decide) (fun K hK => ?_) (fun K hK => ?_)
              ·
               skip
               refine goes_ Tryd.func30 (by kernel_rfl) rfl #[.string ((rdOf ByteArray.empty a5 1).extract 2 (rdOf ByteArray.empty a5 1).size)] (by rfl) rfl rfl (by (try simp only [List.map_toArray, List.map_cons, List.map_nil]); first | done | rfl | (simp only [List.length_drop, List.length_take]; rfl)) ?_
               with_reducible refine (spec_l7Num.calls kj13 ((rdOf ByteArray.empty a5 1).extract 2 (rdOf ByteArray.empty a5 1).size) b3 _ A28.out).mono ?_
               rintro e w61 ⟨rfl, hb⟩; have HS0_ := (hb.cell (World.block_lt_of_cell? _ _ (hHeld.1))).trans (hHeld.1); have HS1_ := (hb.cell (World.block_lt_of_cell? _ _ (hHeld.2))).trans (hHeld.2); refine ⟨_, rfl, ?_⟩; have n0_ := yaa (yah (upR a8.out) hb); have n1_ := yaa (yah (upR a4.out) hb); have n2_ := yaa (yak (upB a3.out) hb)
               have n3_ := yaa (yal (by repeat (with_reducible first | exact HB.out | apply yae | apply yab | apply yad | refine yaf ?_ (Aside0.out ‹_›))) hb)
               clear a8; clear a4; clear a3; clear HB; have a8 := n0_; have a4 := n1_; have a3 := n2_; have HB := n3_; clear n0_ n1_ n2_ n3_; (try clear hb); (try clear hb2); (try clear hk); (try clear hi)
               refine hK.out _ _ ⟨HS0_, HS1_⟩ (fun hHeld => ?_)
               clear hK K
               refine norm_ (a' := ?_) ?_ ?_
               rotate_left
               ·
                show Act.put _ (some 54) _ = _
                simp only [Act.put, List.setIfInBounds_toArray, List.set_cons_zero, List.set_cons_succ, i64_w, i32_w]
                rfl
               refine pz_ 9 55 q17_12 HT_ (by kernel_rfl) ?_
               refine one_ (i := 10) (N := some 8) q17_9 rfl rfl (one_of HT_.out (by kernel_rfl)) (by decide) (fun K hK => ?_)
               refine box_step ?hg (N := 8) ?hd (cs := #[.slice none 0 0, .string (⟨#[]⟩ : ByteArray), .int .i64 0]) (t := 37) ?hr ?_; (case hd => rfl); (case hg => rfl); (case hr => first | (go_simp; done) | (go_simp; rfl))
               intro a2 hg w63 hbox hb; have HS0_ := (hb.cell (World.block_lt_of_cell? _ _ (hHeld.1))).trans (hHeld.1); have HS1_ := (hb.cell (World.block_lt_of_cell? _ _ (hHeld.2))).trans (hHeld.2); have n0_ := yaa (yah (upR a8.out) hb); have n1_ := yaa (yah (upR a4.out) hb); have n2_ := yaa (yak (upB a3.out) hb)
               have n3_ := yaa (yal (by repeat (with_reducible first | exact HB.out | apply yae | apply yab | apply yad | refine yaf ?_ (Aside0.out ‹_›))) hb)
               have n4_ := yaa (hbox)
               have n5_ := yaa ((by rw [hg]; exact (yap (by repeat (with_reducible first | exact HB.out | apply yae | apply yab | apply yad | refine yaf ?_ (Aside0.out ‹_›)))) : w.heap.size ≤ a2))
               have n6_ := yaa ((by rw [hg]; exact (yap (by repeat (with_reducible first | exact HB.out | apply yae | apply yab | apply yad | refine yaf ?_ (Aside0.out ‹_›)))) : w.heap.size ≤ a2))
               have n7_ := yaa ((by rw [hg]; exact Nat.ne_of_lt (blk_lt (upB a3.out)) : a9 ≠ a2)); have n8_ := yaa ((by rw [hg]; exact Nat.ne_of_gt (blk_lt (upB a3.out)) : a2 ≠ a9)); clear a8; clear a4; clear a3; clear HB; have a8 := n0_; have a4 := n1_; have a3 := n2_; have HB := n3_; have a1 := n4_; have b5 := n5_; have b6 := n6_; have a6 := n7_; have a7 := n8_; clear n0_ n1_ n2_ n3_ n4_ n5_ n6_ n7_ n8_; clear hb hbox hg
               refine hK.out _ _ ⟨HS0_, HS1_⟩ (fun hHeld => ?_)
               clear hK K
               refine norm_ (a' := ?_) ?_ ?_
               rotate_left
               ·
                show Act.put _ (some 8) _ = _
                simp only [Act.put, List.setIfInBounds_toArray, List.set_cons_zero, List.set_cons_succ, i64_w, i32_w]
                rfl
               exact norm_ (by simp only [putAll, Act.put, List.setIfInBounds_toArray, List.set_cons_zero, List.set_cons_succ]) (hCont (a2) _ ⟨hHeld, (upR a8.out), (upR a4.out), (upB a3.out), (upB a1.out), b5.out, b6.out, a6.out, a7.out, (by repeat (with_reducible first | exact HB.out | apply yae | apply yab | apply yad | refine yaf ?_ (Aside0.out ‹_›)))⟩)
              ·
               skip
               refine box_step ?hg (N := 8) ?hd (cs := #[.slice none 0 0, .string (⟨#[]⟩ : ByteArray), .int .i64 0]) (t := 37) ?hr ?_; (case hd => rfl); (case hg => rfl); (case hr => first | (go_simp; done) | (go_simp; rfl))
               intro a2 hg w61 hbox hb; have HS0_ := (hb.cell (World.block_lt_of_cell? _ _ (hHeld.1))).trans (hHeld.1); have HS1_ := (hb.cell (World.block_lt_of_cell? _ _ (hHeld.2))).trans (hHeld.2); have n0_ := yaa (yah (upR a8.out) hb); have n1_ := yaa (yah (upR a4.out) hb); have n2_ := yaa (yak (upB a3.out) hb)
               have n3_ := yaa (yal (by repeat (with_reducible first | exact HB.out | apply yae | apply yab | apply yad | refine yaf ?_ (Aside0.out ‹_›))) hb)
               have n4_ := yaa (hbox)
               have n5_ := yaa ((by rw [hg]; exact (yap (by repeat (with_reducible first | exact HB.out | apply yae | apply yab | apply yad | refine yaf ?_ (Aside0.out ‹_›)))) : w.heap.size ≤ a2))
               have n6_ := yaa ((by rw [hg]; exact (yap (by repeat (with_reducible first | exact HB.out | apply yae | apply yab | apply yad | refine yaf ?_ (Aside0.out ‹_›)))) : w.heap.size ≤ a2))
               have n7_ := yaa ((by rw [hg]; exact Nat.ne_of_lt (blk_lt (upB a3.out)) : a9 ≠ a2)); have n8_ := yaa ((by rw [hg]; exact Nat.ne_of_gt (blk_lt (upB a3.out)) : a2 ≠ a9)); clear a8; clear a4; clear a3; clear HB; have a8 := n0_; have a4 := n1_; have a3 := n2_; have HB := n3_; have a1 := n4_; have b5 := n5_; have b6 := n6_; have a6 := n7_; have a7 := n8_; clear n0_ n1_ n2_ n3_ n4_ n5_ n6_ n7_ n8_; clear hb hbox hg
               refine hK.out _ _ ⟨HS0_, HS1_⟩ (fun hHeld => ?_)
               clear hK K
               refine norm_ (a' := ?_) ?_ ?_
               rotate_left
               ·
                show Act.put _ (some 8) _ = _
                simp only [Act.put, List.setIfInBounds_toArray, List.set_cons_zero, List.set_cons_succ, i64_w, i32_w]
                rfl
               refine one_ (i := 8) (N := some 54) q17_13 rfl rfl (one_of HT_.out (by kernel_rfl)) (by decide) (fun K hK => ?_)
               refine goes_ Tryd.func30 (by kernel_rfl) rfl #[.string ((rdOf ByteArray.empty a5 1).extract 2 (rdOf ByteArray.empty a5 1).size)] (by rfl) rfl rfl (by (try simp only [List.map_toArray, List.map_cons, List.map_nil]); first | done | rfl | (simp only [List.length_drop, List.length_take]; rfl)) ?_
               with_reducible refine (spec_l7Num.calls kj13 ((rdOf ByteArray.empty a5 1).extract 2 (rdOf ByteArray.empty a5 1).size) b3 _ A28.out).mono ?_
               rintro e w62 ⟨rfl, hb⟩; have HS0_ := (hb.cell (World.block_lt_of_cell? _ _ (hHeld.1))).trans (hHeld.1); have HS1_ := (hb.cell (World.block_lt_of_cell? _ _ (hHeld.2))).trans (hHeld.2); refine ⟨_, rfl, ?_⟩; have n0_ := yaa (yah (upR a8.out) hb); have n1_ := yaa (yah (upR a4.out) hb); have n2_ := yaa (yak (upB a3.out) hb); have n3_ := yaa (yak (upB a1.out) hb)
               have n4_ := yaa (yal (by repeat (with_reducible first | exact HB.out | apply yae | apply yab | apply yad | refine yaf ?_ (Aside0.out ‹_›))) hb)
               clear a8; clear a4; clear a3; clear a1; clear HB; have a8 := n0_; have a4 := n1_; have a3 := n2_; have a1 := n3_; have HB := n4_; clear n0_ n1_ n2_ n3_ n4_; (try clear hb); (try clear hb2); (try clear hk); (try clear hi); obtain ⟨u3, u4, h6⟩ := Kd.R_slice a8.out
               (first | subst h6 | (injection h6 with f1_ f2_ f3_; have f4_ := f1_.symm; have f5_ := f3_.symm; clear f1_ f2_ f3_; subst f4_; subst f5_))
               refine hK.out _ _ ⟨HS0_, HS1_⟩ (fun hHeld => ?_)
               clear hK K
               refine norm_ (a' := ?_) ?_ ?_
               rotate_left
               ·
                show Act.put _ (some 54) _ = _
                simp only [Act.put, List.setIfInBounds_toArray, List.set_cons_zero, List.set_cons_succ, i64_w, i32_w]
                rfl
               refine pz_ 9 55 q17_9 HT_ (by kernel_rfl) ?_
               exact norm_ (by simp only [putAll, Act.put, List.setIfInBounds_toArray, List.set_cons_zero, List.set_cons_succ]) (hCont (a2) _ ⟨hHeld, (upR a8.out), (upR a4.out), (upB a3.out), (upB a1.out), b5.out, b6.out, a6.out, a7.out, (by repeat (with_reducible first | exact HB.out | apply yae | apply yab | apply yad | refine yaf ?_ (Aside0.out ‹_›)))⟩)
             rintro a2 w64 ⟨hS_, h0_, h1_, h2_, h3_, h4_, h5_, h6_, h7_, h8_⟩; have n0_ : yan (Kd.R k23 23 w64 w.heap.size (fun _ => True) (.slice c7 b0.length c3) b0) := ⟨h0_⟩; have n1_ : yan (Kd.R Kd.string 9 w64 w.heap.size (fun _ => True) (.slice (some ad115) a5.length h3) a5) := ⟨h1_⟩; have n2_ : yan (w64.heap[a9]? = some (.cells #[.slice none 0 0, .string (⟨#[]⟩ : ByteArray), .int .i64 0] 37 (0, 0))) := ⟨h2_⟩; have n3_ : yan (w64.heap[a2]? = some (.cells #[.slice none 0 0, .string (⟨#[]⟩ : ByteArray), .int .i64 0] 37 (0, 0))) := ⟨h3_⟩; have n4_ : yan (w.heap.size ≤ a2) := ⟨h4_⟩; have n5_ : yan (w.heap.size ≤ a2) := ⟨h5_⟩; have n6_ : yan (a9 ≠ a2) := ⟨h6_⟩; have n7_ : yan (a2 ≠ a9) := ⟨h7_⟩; have n8_ : yan (Below w.heap.size w w64) := ⟨h8_⟩; clear a8; clear a4; clear a3; clear HB; clear h0_ h1_ h2_ h3_ h4_ h5_ h6_ h7_ h8_; have a8 := n0_; have a4 := n1_; have a3 := n2_; have a1 := n3_; have b5 := n4_; have b6 := n5_; have a6 := n6_; have a7 := n7_; have HB := n8_; clear n0_ n1_ n2_ n3_ n4_ n5_ n6_ n7_ n8_; have hHeld : w64.cell? ad115 = some (.string (rdOf ByteArray.empty a5 0)) ∧ w64.cell? ⟨ad115.block, ad115.off + 1, none⟩ = some (.string (rdOf ByteArray.empty a5 1)) := hS_
             refine norm_ (a' := ?_) ?_ ?_
             rotate_left
             ·
              simp only [putAll, Act.put, List.setIfInBounds_toArray, List.set_cons_zero, List.set_cons_succ]
              rfl
             refine one_ (i := 11) (N := none) q17_14 rfl rfl (one_of HT_.out (by kernel_rfl)) (by decide) (fun K hK => ?_)
             have u5 : w64.cell? ⟨a2, 0, none⟩ = some (.slice none 0 0) := (blk_cell a1.out 0).trans rfl; have r7 := blk_frozen a1.out 0; have m7 := a6.out; have m8 := a7.out; have u6 : w64.cell? ⟨a2, 1, none⟩ = some (.string (⟨#[]⟩ : ByteArray)) := (blk_cell a1.out 1).trans rfl; have r8 := blk_frozen a1.out 1; have m9 := a6.out; have n0 := a7.out; have u7 : w64.cell? ⟨a2, 2, none⟩ = some (.int .i64 0) := (blk_cell a1.out 2).trans rfl; have r9 := blk_frozen a1.out 2; have n1 := a6.out; have n2 := a7.out
             refine skip_ (by rfl) rfl (st3_ (b := a2) (A := c7) (n := b0.length) (c := c3) (p := (rdOf ByteArray.empty a5 0)) (x := b3) rfl rfl a1.out) ?_
             have hne_ := yac (yag a4.out a1.out (by decide))
             refine hK.out _ _ ⟨cell3_ hne_ hHeld.1, cell3_ hne_ hHeld.2⟩ (fun hHeld => ?_)
             clear hK K
             refine done_ (done_of HT_.out (by kernel_rfl)) ?_
             have s0 := a7.out; have s1 := a6.out; obtain ⟨n3, n4, n5⟩ := cc3_ a1.out; obtain ⟨n6, n7, n8⟩ := cf3_ a1.out
             try go_wp2_with (first | ((with_reducible refine gd_ 56 rfl ?_); refine Kd.event_run rfl (ld3_ (b := a2) (A := c7) (n := b0.length) (c := c3) (p := (rdOf ByteArray.empty a5 0)) (x := b3) rfl (by (repeat refine oneB ?_); refine blk_put (cs := #[.slice c7 b0.length c3, .string (rdOf ByteArray.empty a5 0), .int .i64 0]) ?_ 2 _ rfl; refine blk_put (cs := #[.slice c7 b0.length c3, .string (⟨#[]⟩ : ByteArray), .int .i64 0]) ?_ 1 _ rfl; refine blk_put (cs := #[.slice none 0 0, .string (⟨#[]⟩ : ByteArray), .int .i64 0]) ?_ 0 _ rfl; exact upB a1.out)) ?_) | ((with_reducible refine gc_ 25 rfl ?_); refine gl_ (some 57) rfl Tryd.func25 #[.agg #[.slice c7 b0.length c3, .string (rdOf ByteArray.empty a5 0), .int .i64 b3]] ?_; (with_reducible refine (spec_AskText.calls kj13 _ _ b0 (rdOf ByteArray.empty a5 0) b3 e3 _ ?side1 ?side2 A29.out).mono ?_); (case side1 => refine (yam (e := 23) (base := w.heap.size) (ok := fun k_ => True) (n := b0.length) (c := c3) ?_).2.2; exact (by (with_reducible repeat (first | apply Kd.R_alloc | apply Kd.R_drewN | apply yao)); exact (Kd.R_mono (yaj (p := ⟨a2, 2, none⟩) (yaj (p := ⟨a2, 1, none⟩) (yaj (p := ⟨a2, 0, none⟩) (Kd.R_types a8.out a1.out (by decide)) (fun _ hk => hk.2) (.slice c7 b0.length c3)) (fun _ hk => hk.2) (.string (rdOf ByteArray.empty a5 0))) (fun _ hk => hk.2) (.int .i64 b3)) (fun _ h_ => h_.1)))); (case side2 => exact (yam a8.out).2.1); rintro e w70 ⟨rfl, hb⟩; refine ⟨_, rfl, ?_⟩; replace a8 := yaa (yah (by (with_reducible repeat (first | apply Kd.R_alloc | apply Kd.R_drewN | apply yao)); exact (Kd.R_mono (yaj (p := ⟨a2, 2, none⟩) (yaj (p := ⟨a2, 1, none⟩) (yaj (p := ⟨a2, 0, none⟩) (Kd.R_types a8.out a1.out (by decide)) (fun _ hk => hk.2) (.slice c7 b0.length c3)) (fun _ hk => hk.2) (.string (rdOf ByteArray.empty a5 0))) (fun _ hk => hk.2) (.int .i64 b3)) (fun _ h_ => h_.1))) hb); replace a4 := yaa (yah (by (with_reducible repeat (first | apply Kd.R_alloc | apply Kd.R_drewN | apply yao)); exact (Kd.R_mono (yaj (p := ⟨a2, 2, none⟩) (yaj (p := ⟨a2, 1, none⟩) (yaj (p := ⟨a2, 0, none⟩) (Kd.R_types a4.out a1.out (by decide)) (fun _ hk => hk.2) (.slice c7 b0.length c3)) (fun _ hk => hk.2) (.string (rdOf ByteArray.empty a5 0))) (fun _ hk => hk.2) (.int .i64 b3)) (fun _ h_ => h_.1))) hb); replace a3 := yaa (yak (g := a9) (o := .cells #[.slice none 0 0, .string (⟨#[]⟩ : ByteArray), .int .i64 0] 37 (0, 0)) (by repeat (with_reducible first | exact a3.out | refine oneB ?_ | refine blk_far ?_ a6.out _)) hb); replace a1 := yaa (yak (g := a2) (o := .cells #[.slice c7 b0.length c3, .string (rdOf ByteArray.empty a5 0), .int .i64 b3] 37 (0, 0)) (by (repeat refine oneB ?_); refine blk_put (cs := #[.slice c7 b0.length c3, .string (rdOf ByteArray.empty a5 0), .int .i64 0]) ?_ 2 _ rfl; refine blk_put (cs := #[.slice c7 b0.length c3, .string (⟨#[]⟩ : ByteArray), .int .i64 0]) ?_ 1 _ rfl; refine blk_put (cs := #[.slice none 0 0, .string (⟨#[]⟩ : ByteArray), .int .i64 0]) ?_ 0 _ rfl; exact upB a1.out) hb); replace HB := yaa (yal (by repeat (with_reducible first | exact HB.out | apply yae | apply yab | apply yad | refine yaf ?_ (Aside0.out ‹_›))) hb); (try clear hb); obtain ⟨n9, o0, o1⟩ := cc3_ a3.out; obtain ⟨o2, o3⟩ := cf2_ a3.out; have o4 := blk_frozen a3.out 2))
             refine bodyPost_ret (results_ct rfl _ _ a9 37 #[.slice none 0 0, .string (⟨#[]⟩ : ByteArray), .int .i64 0] (0, 0) _ rfl (by (repeat refine oneB ?_); refine blk_put (cs := #[.slice none 0 0, .string (⟨#[]⟩ : ByteArray), .int .i64 0]) ?_ 2 _ rfl; refine blk_put (cs := #[.slice none 0 0, .string (⟨#[]⟩ : ByteArray), .int .i64 0]) ?_ 1 _ rfl; refine blk_put (cs := #[.slice none 0 0, .string (⟨#[]⟩ : ByteArray), .int .i64 0]) ?_ 0 _ rfl; exact upB a3.out) Tryd.underlying37 rfl (by kernel_rfl)) rfl ?_
             exact ⟨_, by first | rfl | (simp [*, errW_none, errW_some] <;> rfl), by first | exact Kd.R_nil _ _ _ _ _ | exact Kd.N_nil _ _ _ _ _ | exact Kd.V_nil _ _ _ _ _ | exact Kd.Q_nil _ _ _ _ _ | exact Kd.S_nil _ _ _ _ _, by repeat (with_reducible first | exact HB.out | apply yae | apply yab | apply yad | refine yaf ?_ (Aside0.out ‹_›))⟩
           ·
            rw [if_neg c27] at H
            exact absurd H (by simp)
          ·
           rw [if_neg c26] at H
           exact absurd H (by simp)
         ·
          rw [if_neg c25] at H
          exact absurd H (by simp)
     ·
      rw [if_neg c12] at H
      exact absurd H (by simp)
    ·
     rw [if_neg c10] at H
     exact absurd H (by simp)
end
section
def impl_within.f (a0 : Int) (a1 : Int) (a2 : Int) : Option (Bool) := if a0 ≥ a1 then (some (decide (a0 ≤ a2))) else (some false)
set_option maxHeartbeats 8000000 in
set_option maxRecDepth 100000 in
theorem impl_within.calls (a0 : Int) (a1 : Int) (a2 : Int) (r : Bool) (w : World) (h : impl_within.f a0 a1 a2 = some r) :
    Calls Tryd.prog 43 #[.int .i64 a0, .int .i64 a1, .int .i64 a2] w fun e w' => e = .returned (.bool r) ∧ Drawn0 w w' := by
  have H : (if a0 ≥ a1 then (some (decide (a0 ≤ a2))) else (some false)) = some r := h; clear h
  by_cases c4 : a0 ≥ a1
  · rw [if_pos c4] at H
    have c4b0 : decide (a1 ≤ a0) = true := decide_eq_true c4; clear c4; obtain rfl := Option.some.inj H
    go_enter Tryd.func43, Tryd.ntmps43
    go_wp2
    go_ret
    exact ⟨by first | rfl | (simp; done) | (simp [*]; done), by repeat (first | exact Drawn0.refl _ | apply Drawn0.step)⟩
  · rw [if_neg c4] at H
    have c4b0 : decide (a1 ≤ a0) = false := decide_eq_false c4; clear c4; obtain rfl := Option.some.inj H
    go_enter Tryd.func43, Tryd.ntmps43
    go_wp2
    go_ret
    exact ⟨by first | rfl | (simp; done) | (simp [*]; done), by repeat (first | exact Drawn0.refl _ | apply Drawn0.step)⟩
end
section
theorem eqA23 (d : Nat) (w : World) (x0 y0 : Int) (x1 y1 : Int) (x2 y2 : Int) (x3 y3 : Int) (x4 y4 : Int) :
    (Op.equalIn (d + 2) 23 (.agg #[.int .i64 x0, .int .i64 x1, .int .i64 x2, .int .i64 x3, .int .i64 x4]) (.agg #[.int .i64 y0, .int .i64 y1, .int .i64 y2, .int .i64 y3, .int .i64 y4])).run Tryd.prog w = .ok (x0 == y0 && (x1 == y1 && (x2 == y2 && (x3 == y3 && (x4 == y4))))) w := by
  refine eqA_of Tryd.underlying23 (by kernel_rfl) ?_
  refine eqf_cons (by rfl) (by go_simp; rfl) (by go_simp; rfl) (by go_simp) ?_
  refine eqf_cons (by rfl) (by go_simp; rfl) (by go_simp; rfl) (by go_simp) ?_
  refine eqf_cons (by rfl) (by go_simp; rfl) (by go_simp; rfl) (by go_simp) ?_
  refine eqf_cons (by rfl) (by go_simp; rfl) (by go_simp; rfl) (by go_simp) ?_
  exact eqf_last (by rfl) (by go_simp; rfl) (by go_simp; rfl) (by go_simp)
end
section
def impl_sizeOk.f (a0 : Int) : Option (Bool) := if a0 ≥ 1 then (some (decide (a0 ≤ 6))) else (some false)
set_option maxHeartbeats 8000000 in
set_option maxRecDepth 100000 in
theorem impl_sizeOk.calls (a0 : Int) (r : Bool) (w : World) (h : impl_sizeOk.f a0 = some r) :
    Calls Tryd.prog 44 #[.int .i64 a0] w fun e w' => e = .returned (.bool r) ∧ Drawn0 w w' := by
  have H : (if a0 ≥ 1 then (some (decide (a0 ≤ 6))) else (some false)) = some r := h; clear h
  by_cases c2 : a0 ≥ 1
  · rw [if_pos c2] at H
    have c2b0 : decide (1 ≤ a0) = true := decide_eq_true c2; clear c2; obtain rfl := Option.some.inj H
    go_enter Tryd.func44, Tryd.ntmps44
    go_wp2
    go_ret
    exact ⟨by first | rfl | (simp; done) | (simp [*]; done), by repeat (first | exact Drawn0.refl _ | apply Drawn0.step)⟩
  · rw [if_neg c2] at H
    have c2b0 : decide (1 ≤ a0) = false := decide_eq_false c2; clear c2; obtain rfl := Option.some.inj H
    go_enter Tryd.func44, Tryd.ntmps44
    go_wp2
    go_ret
    exact ⟨by first | rfl | (simp; done) | (simp [*]; done), by repeat (first | exact Drawn0.refl _ | apply Drawn0.step)⟩
end
section
attribute [local go_sem high] eqA23
open Go.Proofs.YtfafjpfigphchaaDoorW.PrintWords renaming pw_below_drewN → yaa, below_alloc → yab, below_drew1 → yac, below_set → yae
open Go.Proofs.YtfafjpfigphchaaDoorW.PrintWords.Aside0 renaming mk → yad

def impl_OpOk.j0 : Nat → Int → Bool → Int → Int → Int → Int → Int → Option (Bool)
 | 0, _, _, _, _, _, _, _ => none
 | k + 1, x4, x25, x102000, x102001, x102002, x102003, x102004 => if x25 = true then (some (x102001 == 0 && (x102002 == 0 && (x102003 == 0 && (x102004 == 0))))) else (if x4 = 7 then ((impl_sizeOk.f x102001).bind fun t106 => (if t106 = true then ((impl_sizeOk.f x102002).bind fun t107 => (if t107 = true then (if x102003 = 0 then (some (x102004 == 0)) else (some false)) else (some false))) else (some false))) else (if x4 = 8 then ((impl_partOk.f x102001).bind fun t108 => (if t108 = true then ((impl_partOk.f x102002).bind fun t109 => (if t109 = true then ((impl_partOk.f x102003).bind fun t110 => (if t110 = true then (some (x102004 == 0)) else (some false))) else (some false))) else (some false))) else (some false)))
def impl_OpOk.f (k : Nat) (a0_0 : Int) (a0_1 : Int) (a0_2 : Int) (a0_3 : Int) (a0_4 : Int) : Option (Bool) := if a0_0 = 1 then ((impl_within.f a0_1 0 5).bind fun t102 => (if t102 = true then ((impl_within.f a0_2 0 5).bind fun t103 => (if t103 = true then ((impl_sizeOk.f a0_3).bind fun t104 => (if t104 = true then ((impl_sizeOk.f a0_4).bind fun t105 => (some t105)) else (some false))) else (some false))) else (some false))) else (if a0_0 = 2 then (impl_OpOk.j0 k a0_0 (a0_0 == 2) a0_0 a0_1 a0_2 a0_3 a0_4) else (if a0_0 = 3 then (impl_OpOk.j0 k a0_0 (a0_0 == 3) a0_0 a0_1 a0_2 a0_3 a0_4) else (if a0_0 = 4 then (impl_OpOk.j0 k a0_0 (a0_0 == 4) a0_0 a0_1 a0_2 a0_3 a0_4) else (if a0_0 = 5 then (impl_OpOk.j0 k a0_0 (a0_0 == 5) a0_0 a0_1 a0_2 a0_3 a0_4) else (impl_OpOk.j0 k a0_0 (a0_0 == 6) a0_0 a0_1 a0_2 a0_3 a0_4)))))
set_option maxHeartbeats 8000000 in
set_option maxRecDepth 100000 in
theorem impl_OpOk.calls (k : Nat) (a0_0 : Int) (a0_1 : Int) (a0_2 : Int) (a0_3 : Int) (a0_4 : Int) (r : Bool) (w : World) (h : impl_OpOk.f k a0_0 a0_1 a0_2 a0_3 a0_4 = some r) :
  Calls Tryd.prog 14 #[.agg #[.int .i64 a0_0, .int .i64 a0_1, .int .i64 a0_2, .int .i64 a0_3, .int .i64 a0_4]] w fun e w' => e = .returned (.bool r) ∧ Below w.heap.size w w' := by
 have hu23 := Tryd.underlying23; have HB := yad (Below.refl w.heap.size w); have H : (if a0_0 = 1 then ((impl_within.f a0_1 0 5).bind fun h6 => (if h6 = true then ((impl_within.f a0_2 0 5).bind fun h7 => (if h7 = true then ((impl_sizeOk.f a0_3).bind fun h8 => (if h8 = true then ((impl_sizeOk.f a0_4).bind fun h9 => (some h9)) else (some false))) else (some false))) else (some false))) else (if a0_0 = 2 then (impl_OpOk.j0 k a0_0 (a0_0 == 2) a0_0 a0_1 a0_2 a0_3 a0_4) else (if a0_0 = 3 then (impl_OpOk.j0 k a0_0 (a0_0 == 3) a0_0 a0_1 a0_2 a0_3 a0_4) else (if a0_0 = 4 then (impl_OpOk.j0 k a0_0 (a0_0 == 4) a0_0 a0_1 a0_2 a0_3 a0_4) else (if a0_0 = 5 then (impl_OpOk.j0 k a0_0 (a0_0 == 5) a0_0 a0_1 a0_2 a0_3 a0_4) else (impl_OpOk.j0 k a0_0 (a0_0 == 6) a0_0 a0_1 a0_2 a0_3 a0_4)))))) = some r := h; clear h
 by_cases c2 : a0_0 = 1
 ·
  rw [if_pos c2] at H
  have i0 := beq_iff_eq.mpr c2; have i1 := bne_eq_false_iff_eq.mpr c2; clear c2; obtain ⟨h6, A3, H⟩ := bindA H; (try dsimp only at H)
  by_cases c4 : h6 = true
  ·
   subst c4
   rw [if_pos rfl] at H
   obtain ⟨h7, A5, H⟩ := bindA H; (try dsimp only at H)
   by_cases c6 : h7 = true
   ·
    subst c6
    rw [if_pos rfl] at H
    obtain ⟨h8, A7, H⟩ := bindA H; (try dsimp only at H)
    by_cases c8 : h8 = true
    ·
     subst c8
     rw [if_pos rfl] at H
     obtain ⟨h9, A9, H⟩ := bindA H; (try dsimp only at H); obtain rfl := Option.some.inj H
     go_enter Tryd.func14, Tryd.ntmps14
     go_wp2_with (first | ((with_reducible refine gd_ 1 rfl ?_); refine bx_ 1 rfl #[.int .i64 a0_0, .int .i64 a0_1, .int .i64 a0_2, .int .i64 a0_3, .int .i64 a0_4] 23 ?_; intro a6 hg w10 hbox hb; have a5 := yad (hbox); have a7 := yad ((by rw [hg]; exact (below_size (upH HB.out)) : w.heap.size ≤ a6)); replace HB := yad (below_step (upH HB.out) hb); have b2 := a7; clear hb hbox hg; obtain ⟨b3, b4, b5, b6, b7⟩ := cc5_ a5.out; obtain ⟨b8, b9, c0, c3⟩ := cf4_ a5.out; have c7 := blk_frozen a5.out 4) | ((with_reducible refine gc_ 43 rfl ?_); refine gl_ (some 9) rfl Tryd.func43 #[.int .i64 a0_1, .int .i64 0, .int .i64 5] ?_; (with_reducible refine (impl_within.calls a0_1 0 5 true _ A3.out).mono ?_); rintro e w' ⟨rfl, ⟨nd, rfl⟩⟩; refine ⟨_, rfl, ?_⟩) | (go_at_call 43; (with_reducible refine (impl_within.calls a0_2 0 5 true _ A5.out).mono ?_); rintro e w' ⟨rfl, ⟨nd, rfl⟩⟩) | (go_at_call 44; (with_reducible refine (impl_sizeOk.calls a0_3 true _ A7.out).mono ?_); rintro e w' ⟨rfl, ⟨nd, rfl⟩⟩) | (go_at_call 44; (with_reducible refine (impl_sizeOk.calls a0_4 h9 _ A9.out).mono ?_); rintro e w' ⟨rfl, ⟨nd, rfl⟩⟩))
     go_ret
     exact ⟨by first | rfl | (simp [*, errW_none, errW_some] <;> rfl), by repeat (with_reducible first | exact HB.out | apply yab | apply yaa | apply yac | refine yae ?_ (Aside0.out ‹_›))⟩
    ·
     replace c8 := Bool.eq_false_iff.mpr c8
     subst c8
     rw [if_neg (show ¬ (false = true) by decide)] at H
     obtain rfl := Option.some.inj H
     go_enter Tryd.func14, Tryd.ntmps14
     go_wp2_with (first | ((with_reducible refine gd_ 1 rfl ?_); refine bx_ 1 rfl #[.int .i64 a0_0, .int .i64 a0_1, .int .i64 a0_2, .int .i64 a0_3, .int .i64 a0_4] 23 ?_; intro a6 hg w12 hbox hb; have a5 := yad (hbox); have a7 := yad ((by rw [hg]; exact (below_size (upH HB.out)) : w.heap.size ≤ a6)); replace HB := yad (below_step (upH HB.out) hb); have b2 := a7; clear hb hbox hg; obtain ⟨c9, d0, d1, d2, d3⟩ := cc5_ a5.out; obtain ⟨d4, d5, d6, d7⟩ := cf4_ a5.out; have d8 := blk_frozen a5.out 4) | ((with_reducible refine gc_ 43 rfl ?_); refine gl_ (some 9) rfl Tryd.func43 #[.int .i64 a0_1, .int .i64 0, .int .i64 5] ?_; (with_reducible refine (impl_within.calls a0_1 0 5 true _ A3.out).mono ?_); rintro e w' ⟨rfl, ⟨nd, rfl⟩⟩; refine ⟨_, rfl, ?_⟩) | (go_at_call 43; (with_reducible refine (impl_within.calls a0_2 0 5 true _ A5.out).mono ?_); rintro e w' ⟨rfl, ⟨nd, rfl⟩⟩) | (go_at_call 44; (with_reducible refine (impl_sizeOk.calls a0_3 false _ A7.out).mono ?_); rintro e w' ⟨rfl, ⟨nd, rfl⟩⟩))
     go_ret
     exact ⟨by first | rfl | (simp [*, errW_none, errW_some] <;> rfl), by repeat (with_reducible first | exact HB.out | apply yab | apply yaa | apply yac | refine yae ?_ (Aside0.out ‹_›))⟩
   ·
    replace c6 := Bool.eq_false_iff.mpr c6
    subst c6
    rw [if_neg (show ¬ (false = true) by decide)] at H
    obtain rfl := Option.some.inj H
    go_enter Tryd.func14, Tryd.ntmps14
    go_wp2_with (first | ((with_reducible refine gd_ 1 rfl ?_); refine bx_ 1 rfl #[.int .i64 a0_0, .int .i64 a0_1, .int .i64 a0_2, .int .i64 a0_3, .int .i64 a0_4] 23 ?_; intro a6 hg w14 hbox hb; have a5 := yad (hbox); have a7 := yad ((by rw [hg]; exact (below_size (upH HB.out)) : w.heap.size ≤ a6)); replace HB := yad (below_step (upH HB.out) hb); have b2 := a7; clear hb hbox hg; obtain ⟨d9, e0, e1, e2, e3⟩ := cc5_ a5.out; obtain ⟨e4, e5, e6, e7⟩ := cf4_ a5.out; have e8 := blk_frozen a5.out 4) | ((with_reducible refine gc_ 43 rfl ?_); refine gl_ (some 9) rfl Tryd.func43 #[.int .i64 a0_1, .int .i64 0, .int .i64 5] ?_; (with_reducible refine (impl_within.calls a0_1 0 5 true _ A3.out).mono ?_); rintro e w' ⟨rfl, ⟨nd, rfl⟩⟩; refine ⟨_, rfl, ?_⟩) | (go_at_call 43; (with_reducible refine (impl_within.calls a0_2 0 5 false _ A5.out).mono ?_); rintro e w' ⟨rfl, ⟨nd, rfl⟩⟩))
    go_ret
    exact ⟨by first | rfl | (simp [*, errW_none, errW_some] <;> rfl), by repeat (with_reducible first | exact HB.out | apply yab | apply yaa | apply yac | refine yae ?_ (Aside0.out ‹_›))⟩
  ·
   replace c4 := Bool.eq_false_iff.mpr c4
   subst c4
   rw [if_neg (show ¬ (false = true) by decide)] at H
   obtain rfl := Option.some.inj H
   go_enter Tryd.func14, Tryd.ntmps14
   go_wp2_with (first | ((with_reducible refine gd_ 1 rfl ?_); refine bx_ 1 rfl #[.int .i64 a0_0, .int .i64 a0_1, .int .i64 a0_2, .int .i64 a0_3, .int .i64 a0_4] 23 ?_; intro a6 hg w16 hbox hb; have a5 := yad (hbox); have a7 := yad ((by rw [hg]; exact (below_size (upH HB.out)) : w.heap.size ≤ a6)); replace HB := yad (below_step (upH HB.out) hb); have b2 := a7; clear hb hbox hg; obtain ⟨e9, f0, f1, f2, f3⟩ := cc5_ a5.out; obtain ⟨f4, f5, f6, f7⟩ := cf4_ a5.out; have f8 := blk_frozen a5.out 4) | ((with_reducible refine gc_ 43 rfl ?_); refine gl_ (some 9) rfl Tryd.func43 #[.int .i64 a0_1, .int .i64 0, .int .i64 5] ?_; (with_reducible refine (impl_within.calls a0_1 0 5 false _ A3.out).mono ?_); rintro e w' ⟨rfl, ⟨nd, rfl⟩⟩; refine ⟨_, rfl, ?_⟩))
   go_ret
   exact ⟨by first | rfl | (simp [*, errW_none, errW_some] <;> rfl), by repeat (with_reducible first | exact HB.out | apply yab | apply yaa | apply yac | refine yae ?_ (Aside0.out ‹_›))⟩
 ·
  rw [if_neg c2] at H
  have i0 := beq_eq_false_iff_ne.mpr c2; have i1 := bne_iff_ne.mpr c2; have HC18 := yad H; clear H
  go_enter Tryd.func14, Tryd.ntmps14
  go_upto_if 25 with (first | ((with_reducible refine gd_ 1 rfl ?_); refine bx_ 1 rfl #[.int .i64 a0_0, .int .i64 a0_1, .int .i64 a0_2, .int .i64 a0_3, .int .i64 a0_4] 23 ?_; intro a6 hg w19 hbox hb; have a5 := yad (hbox); have a7 := yad ((by rw [hg]; exact (below_size (upH HB.out)) : w.heap.size ≤ a6)); replace HB := yad (below_step (upH HB.out) hb); have b2 := a7; clear hb hbox hg; obtain ⟨f9, g0, g1, g2, g3⟩ := cc5_ a5.out; obtain ⟨g4, g5, g6, g7⟩ := cf4_ a5.out; have g8 := blk_frozen a5.out 4))
  (try simp only [Act.put, List.setIfInBounds_toArray, List.set_cons_zero, List.set_cons_succ])
  go_cut [25] (fun v25 wc => ∃ (kq : Nat) (b0 : Bool), v25 = .bool b0 ∧ Aside0 (impl_OpOk.j0 kq a0_0 b0 a0_0 a0_1 a0_2 a0_3 a0_4 = some r) ∧ Aside0 (kq ≤ k) ∧ Aside0 (wc.heap[a6]? = some (.cells #[.int .i64 a0_0, .int .i64 a0_1, .int .i64 a0_2, .int .i64 a0_3, .int .i64 a0_4] 23 (0, 0))) ∧ Aside0 (Below w.heap.size w wc))
  case first =>
   have H := HC18.out; clear HC18
   by_cases c21 : a0_0 = 2
   ·
    rw [if_pos c21] at H
    have a9 := beq_iff_eq.mpr c21; have g9 := bne_eq_false_iff_eq.mpr c21; clear c21
    (first | rw [a9] | (simp only [i64_w, i32_w]; rw [a9]) | skip)
    have H' := yad H; clear H
    go_wp2
    go_meet
    case rel => exact ⟨_, ((a0_0 == 2)), (by first | rfl | (simp; done) | (simp [*]; done)), H', ⟨by first | omega | exact Nat.le_refl _⟩, ⟨by exact upB a5.out⟩, ⟨by repeat (with_reducible first | exact HB.out | apply yab | apply yaa | apply yac | refine yae ?_ (Aside0.out ‹_›))⟩⟩
   ·
    rw [if_neg c21] at H
    have a9 := beq_eq_false_iff_ne.mpr c21; have g9 := bne_iff_ne.mpr c21
    (first | rw [a9] | (simp only [i64_w, i32_w]; rw [a9]) | skip)
    by_cases c22 : a0_0 = 3
    ·
     rw [if_pos c22] at H
     have h0 := beq_iff_eq.mpr c22; have h1 := bne_eq_false_iff_eq.mpr c22; clear c22; have H' := yad H; clear H
     go_wp2
     go_meet
     case rel => exact ⟨_, ((a0_0 == 3)), (by first | rfl | (simp; done) | (simp [*]; done)), H', ⟨by first | omega | exact Nat.le_refl _⟩, ⟨by exact upB a5.out⟩, ⟨by repeat (with_reducible first | exact HB.out | apply yab | apply yaa | apply yac | refine yae ?_ (Aside0.out ‹_›))⟩⟩
    ·
     rw [if_neg c22] at H
     have h0 := beq_eq_false_iff_ne.mpr c22; have h1 := bne_iff_ne.mpr c22
     by_cases c23 : a0_0 = 4
     ·
      rw [if_pos c23] at H
      have h2 := beq_iff_eq.mpr c23; have h3 := bne_eq_false_iff_eq.mpr c23; clear c23; have H' := yad H; clear H
      go_wp2
      go_meet
      case rel => exact ⟨_, ((a0_0 == 4)), (by first | rfl | (simp; done) | (simp [*]; done)), H', ⟨by first | omega | exact Nat.le_refl _⟩, ⟨by exact upB a5.out⟩, ⟨by repeat (with_reducible first | exact HB.out | apply yab | apply yaa | apply yac | refine yae ?_ (Aside0.out ‹_›))⟩⟩
     ·
      rw [if_neg c23] at H
      have h2 := beq_eq_false_iff_ne.mpr c23; have h3 := bne_iff_ne.mpr c23
      by_cases c24 : a0_0 = 5
      ·
       rw [if_pos c24] at H
       have h4 := beq_iff_eq.mpr c24; have h5 := bne_eq_false_iff_eq.mpr c24; clear c24; have H' := yad H; clear H
       go_wp2
       go_meet
       case rel => exact ⟨_, ((a0_0 == 5)), (by first | rfl | (simp; done) | (simp [*]; done)), H', ⟨by first | omega | exact Nat.le_refl _⟩, ⟨by exact upB a5.out⟩, ⟨by repeat (with_reducible first | exact HB.out | apply yab | apply yaa | apply yac | refine yae ?_ (Aside0.out ‹_›))⟩⟩
      ·
       rw [if_neg c24] at H
       have h4 := beq_eq_false_iff_ne.mpr c24; have h5 := bne_iff_ne.mpr c24; have H' := yad H; clear H
       go_wp2
       go_meet
       case rel => exact ⟨_, ((a0_0 == 6)), (by first | rfl | (simp; done) | (simp [*]; done)), H', ⟨by first | omega | exact Nat.le_refl _⟩, ⟨by exact upB a5.out⟩, ⟨by repeat (with_reducible first | exact HB.out | apply yab | apply yaa | apply yac | refine yae ?_ (Aside0.out ‹_›))⟩⟩
  case rest =>
   clear HC18; (try clear c1); (try clear c2); (try clear i0); (try clear i1); (try clear p2); (try clear c4); (try clear c6); (try clear c8); (try clear c14); (try clear c21); (try clear a9); (try clear g9); (try clear c22); (try clear h0); (try clear h1); (try clear c23); (try clear h2); (try clear h3); (try clear c24); (try clear h4); (try clear h5); (try clear b3); (try clear b4); (try clear b5); (try clear b6); (try clear b7); (try clear c9); (try clear d0); (try clear d1); (try clear d2); (try clear d3); (try clear d9); (try clear e0); (try clear e1); (try clear e2); (try clear e3); (try clear e9); (try clear f0); (try clear f1); (try clear f2); (try clear f3); (try clear f9); (try clear g0); (try clear g1); (try clear g2); (try clear g3); (try clear b8); (try clear b9); (try clear c0); (try clear c3); (try clear c7); (try clear d4); (try clear d5); (try clear d6); (try clear d7); (try clear d8); (try clear e4); (try clear e5); (try clear e6); (try clear e7); (try clear e8); (try clear f4); (try clear f5); (try clear f6); (try clear f7); (try clear f8); (try clear g4); (try clear g5); (try clear g6); (try clear g7); (try clear g8); obtain ⟨kq, b0, rfl, HA, HJ17, a5, HB⟩ := hcut
   cases kq with
   | zero => exact absurd HA.out (by simp [impl_OpOk.j0])
   | succ kj17 =>
    have H := HA.out; clear HA
    simp only [impl_OpOk.j0] at H
    by_cases c25 : b0 = true
    ·
     subst c25
     rw [if_pos rfl] at H
     obtain rfl := Option.some.inj H; obtain ⟨i8, i9, j1, j2, j3⟩ := cc5_ a5.out; obtain ⟨j4, j5, j6, j7, j8⟩ := cf5_ a5.out
     go_wp2
     go_ret
     exact ⟨by first | rfl | (simp [*, errW_none, errW_some] <;> rfl), by repeat (with_reducible first | exact HB.out | apply yab | apply yaa | apply yac | refine yae ?_ (Aside0.out ‹_›))⟩
    ·
     replace c25 := Bool.eq_false_iff.mpr c25
     subst c25
     rw [if_neg (show ¬ (false = true) by decide)] at H
     by_cases c27 : a0_0 = 7
     ·
      rw [if_pos c27] at H
      have i2 := beq_iff_eq.mpr c27; have i3 := bne_eq_false_iff_eq.mpr c27; clear c27; obtain ⟨s0, A28, H⟩ := bindA H; (try dsimp only at H)
      by_cases c29 : s0 = true
      ·
       subst c29
       rw [if_pos rfl] at H
       obtain ⟨s1, A30, H⟩ := bindA H; (try dsimp only at H)
       by_cases c31 : s1 = true
       ·
        subst c31
        rw [if_pos rfl] at H
        by_cases c32 : a0_3 = 0
        ·
         rw [if_pos c32] at H
         have i4 := beq_iff_eq.mpr c32; have i5 := bne_eq_false_iff_eq.mpr c32; clear c32; obtain rfl := Option.some.inj H; obtain ⟨j9, k0, k1, k2, k3⟩ := cc5_ a5.out; obtain ⟨k4, k5, k6, k7, k8⟩ := cf5_ a5.out
         go_wp2_with (first | ((with_reducible refine gc_ 44 rfl ?_); refine gl_ (some 40) rfl Tryd.func44 #[.int .i64 a0_1] ?_; (with_reducible refine (impl_sizeOk.calls a0_1 true _ A28.out).mono ?_); rintro e w' ⟨rfl, ⟨nd, rfl⟩⟩; refine ⟨_, rfl, ?_⟩) | (go_at_call 44; (with_reducible refine (impl_sizeOk.calls a0_2 true _ A30.out).mono ?_); rintro e w' ⟨rfl, ⟨nd, rfl⟩⟩))
         go_ret
         exact ⟨by first | rfl | (simp [*, errW_none, errW_some] <;> rfl), by repeat (with_reducible first | exact HB.out | apply yab | apply yaa | apply yac | refine yae ?_ (Aside0.out ‹_›))⟩
        ·
         rw [if_neg c32] at H
         have i4 := beq_eq_false_iff_ne.mpr c32; have i5 := bne_iff_ne.mpr c32; obtain rfl := Option.some.inj H; obtain ⟨k9, l0, l1, l2, l3⟩ := cc5_ a5.out; obtain ⟨l4, l5, l6, l7, l8⟩ := cf5_ a5.out
         go_wp2_with (first | ((with_reducible refine gc_ 44 rfl ?_); refine gl_ (some 40) rfl Tryd.func44 #[.int .i64 a0_1] ?_; (with_reducible refine (impl_sizeOk.calls a0_1 true _ A28.out).mono ?_); rintro e w' ⟨rfl, ⟨nd, rfl⟩⟩; refine ⟨_, rfl, ?_⟩) | (go_at_call 44; (with_reducible refine (impl_sizeOk.calls a0_2 true _ A30.out).mono ?_); rintro e w' ⟨rfl, ⟨nd, rfl⟩⟩))
         go_ret
         exact ⟨by first | rfl | (simp [*, errW_none, errW_some] <;> rfl), by repeat (with_reducible first | exact HB.out | apply yab | apply yaa | apply yac | refine yae ?_ (Aside0.out ‹_›))⟩
       ·
        replace c31 := Bool.eq_false_iff.mpr c31
        subst c31
        rw [if_neg (show ¬ (false = true) by decide)] at H
        obtain rfl := Option.some.inj H; obtain ⟨l9, m0, m1, m2, m3⟩ := cc5_ a5.out; obtain ⟨m4, m5, m6, m7, m8⟩ := cf5_ a5.out
        go_wp2_with (first | ((with_reducible refine gc_ 44 rfl ?_); refine gl_ (some 40) rfl Tryd.func44 #[.int .i64 a0_1] ?_; (with_reducible refine (impl_sizeOk.calls a0_1 true _ A28.out).mono ?_); rintro e w' ⟨rfl, ⟨nd, rfl⟩⟩; refine ⟨_, rfl, ?_⟩) | (go_at_call 44; (with_reducible refine (impl_sizeOk.calls a0_2 false _ A30.out).mono ?_); rintro e w' ⟨rfl, ⟨nd, rfl⟩⟩))
        go_ret
        exact ⟨by first | rfl | (simp [*, errW_none, errW_some] <;> rfl), by repeat (with_reducible first | exact HB.out | apply yab | apply yaa | apply yac | refine yae ?_ (Aside0.out ‹_›))⟩
      ·
       replace c29 := Bool.eq_false_iff.mpr c29
       subst c29
       rw [if_neg (show ¬ (false = true) by decide)] at H
       obtain rfl := Option.some.inj H; obtain ⟨m9, n0, n1, n2, n3⟩ := cc5_ a5.out; obtain ⟨n4, n5, n6, n7, n8⟩ := cf5_ a5.out
       go_wp2_with (first | ((with_reducible refine gc_ 44 rfl ?_); refine gl_ (some 40) rfl Tryd.func44 #[.int .i64 a0_1] ?_; (with_reducible refine (impl_sizeOk.calls a0_1 false _ A28.out).mono ?_); rintro e w' ⟨rfl, ⟨nd, rfl⟩⟩; refine ⟨_, rfl, ?_⟩))
       go_ret
       exact ⟨by first | rfl | (simp [*, errW_none, errW_some] <;> rfl), by repeat (with_reducible first | exact HB.out | apply yab | apply yaa | apply yac | refine yae ?_ (Aside0.out ‹_›))⟩
     ·
      rw [if_neg c27] at H
      have i2 := beq_eq_false_iff_ne.mpr c27; have i3 := bne_iff_ne.mpr c27
      by_cases c37 : a0_0 = 8
      ·
       rw [if_pos c37] at H
       have i6 := beq_iff_eq.mpr c37; have i7 := bne_eq_false_iff_eq.mpr c37; clear c37; obtain ⟨s2, A38, H⟩ := bindA H; (try dsimp only at H)
       by_cases c39 : s2 = true
       ·
        subst c39
        rw [if_pos rfl] at H
        obtain ⟨s3, A40, H⟩ := bindA H; (try dsimp only at H)
        by_cases c41 : s3 = true
        ·
         subst c41
         rw [if_pos rfl] at H
         obtain ⟨s4, A42, H⟩ := bindA H; (try dsimp only at H)
         by_cases c43 : s4 = true
         ·
          subst c43
          rw [if_pos rfl] at H
          obtain rfl := Option.some.inj H; obtain ⟨n9, o0, o1, o2, o3⟩ := cc5_ a5.out; obtain ⟨o4, o5, o6, o7, o8⟩ := cf5_ a5.out
          go_wp2_with (first | ((with_reducible refine gc_ 45 rfl ?_); refine gl_ (some 60) rfl Tryd.func45 #[.int .i64 a0_1] ?_; (with_reducible refine (impl_partOk.calls a0_1 true _ A38.out).mono ?_); rintro e w' ⟨rfl, ⟨nd, rfl⟩⟩; refine ⟨_, rfl, ?_⟩) | (go_at_call 45; (with_reducible refine (impl_partOk.calls a0_2 true _ A40.out).mono ?_); rintro e w' ⟨rfl, ⟨nd, rfl⟩⟩) | (go_at_call 45; (with_reducible refine (impl_partOk.calls a0_3 true _ A42.out).mono ?_); rintro e w' ⟨rfl, ⟨nd, rfl⟩⟩))
          go_ret
          exact ⟨by first | rfl | (simp [*, errW_none, errW_some] <;> rfl), by repeat (with_reducible first | exact HB.out | apply yab | apply yaa | apply yac | refine yae ?_ (Aside0.out ‹_›))⟩
         ·
          replace c43 := Bool.eq_false_iff.mpr c43
          subst c43
          rw [if_neg (show ¬ (false = true) by decide)] at H
          obtain rfl := Option.some.inj H; obtain ⟨o9, p0, p1, p3, p4⟩ := cc5_ a5.out; obtain ⟨p5, p6, p7, p8, p9⟩ := cf5_ a5.out
          go_wp2_with (first | ((with_reducible refine gc_ 45 rfl ?_); refine gl_ (some 60) rfl Tryd.func45 #[.int .i64 a0_1] ?_; (with_reducible refine (impl_partOk.calls a0_1 true _ A38.out).mono ?_); rintro e w' ⟨rfl, ⟨nd, rfl⟩⟩; refine ⟨_, rfl, ?_⟩) | (go_at_call 45; (with_reducible refine (impl_partOk.calls a0_2 true _ A40.out).mono ?_); rintro e w' ⟨rfl, ⟨nd, rfl⟩⟩) | (go_at_call 45; (with_reducible refine (impl_partOk.calls a0_3 false _ A42.out).mono ?_); rintro e w' ⟨rfl, ⟨nd, rfl⟩⟩))
          go_ret
          exact ⟨by first | rfl | (simp [*, errW_none, errW_some] <;> rfl), by repeat (with_reducible first | exact HB.out | apply yab | apply yaa | apply yac | refine yae ?_ (Aside0.out ‹_›))⟩
        ·
         replace c41 := Bool.eq_false_iff.mpr c41
         subst c41
         rw [if_neg (show ¬ (false = true) by decide)] at H
         obtain rfl := Option.some.inj H; obtain ⟨q0, q1, q2, q3, q4⟩ := cc5_ a5.out; obtain ⟨q5, q6, q7, q8, q9⟩ := cf5_ a5.out
         go_wp2_with (first | ((with_reducible refine gc_ 45 rfl ?_); refine gl_ (some 60) rfl Tryd.func45 #[.int .i64 a0_1] ?_; (with_reducible refine (impl_partOk.calls a0_1 true _ A38.out).mono ?_); rintro e w' ⟨rfl, ⟨nd, rfl⟩⟩; refine ⟨_, rfl, ?_⟩) | (go_at_call 45; (with_reducible refine (impl_partOk.calls a0_2 false _ A40.out).mono ?_); rintro e w' ⟨rfl, ⟨nd, rfl⟩⟩))
         go_ret
         exact ⟨by first | rfl | (simp [*, errW_none, errW_some] <;> rfl), by repeat (with_reducible first | exact HB.out | apply yab | apply yaa | apply yac | refine yae ?_ (Aside0.out ‹_›))⟩
       ·
        replace c39 := Bool.eq_false_iff.mpr c39
        subst c39
        rw [if_neg (show ¬ (false = true) by decide)] at H
        obtain rfl := Option.some.inj H; obtain ⟨r0, r1, r2, r3, r4⟩ := cc5_ a5.out; obtain ⟨r5, r6, r7, r8, r9⟩ := cf5_ a5.out
        go_wp2_with (first | ((with_reducible refine gc_ 45 rfl ?_); refine gl_ (some 60) rfl Tryd.func45 #[.int .i64 a0_1] ?_; (with_reducible refine (impl_partOk.calls a0_1 false _ A38.out).mono ?_); rintro e w' ⟨rfl, ⟨nd, rfl⟩⟩; refine ⟨_, rfl, ?_⟩))
        go_ret
        exact ⟨by first | rfl | (simp [*, errW_none, errW_some] <;> rfl), by repeat (with_reducible first | exact HB.out | apply yab | apply yaa | apply yac | refine yae ?_ (Aside0.out ‹_›))⟩
      ·
       rw [if_neg c37] at H
       have i6 := beq_eq_false_iff_ne.mpr c37; have i7 := bne_iff_ne.mpr c37; obtain rfl := Option.some.inj H
       go_wp2
       go_ret
       exact ⟨by first | rfl | (simp [*, errW_none, errW_some] <;> rfl), by repeat (with_reducible first | exact HB.out | apply yab | apply yaa | apply yac | refine yae ?_ (Aside0.out ‹_›))⟩
end
section
open Go.Proofs.YtfafjpfigphchaaDoor.X renaming rd_T23 → yaa

def impl_opsOk.l0 : Nat → List (S23) → Int → Int → Option (Bool)
 | 0, _, _, _ => none
 | k + 1, x8, x9, x10 => if x10 < x9 then (if 0 ≤ x10 then (if x10 < (x8.length : Int) then ((impl_OpOk.f k ((rd_T23 x8 x10).f0) ((rd_T23 x8 x10).f1) ((rd_T23 x8 x10).f2) ((rd_T23 x8 x10).f3) ((rd_T23 x8 x10).f4)).bind fun t103 => (if t103 = true then (impl_opsOk.l0 k x8 x9 (wrap64 (x10 + 1))) else (some false))) else (none)) else (none)) else (some true)
def impl_opsOk.f (k : Nat) (l0 : List (S23)) : Option (Bool) := if (l0.length : Int) > 5 then (some false) else (impl_opsOk.l0 k l0 (l0.length : Int) 0)
set_option maxHeartbeats 8000000 in
set_option maxRecDepth 100000 in
theorem impl_opsOk.calls (k : Nat) (A0 : Option Addr) (c0 : Nat) (l0 : List (S23)) (r : Bool) (w : World) (hr0 : Kd.C k23 w A0 l0.length l0) (hc0 : l0.length ≤ c0) (h : impl_opsOk.f k l0 = some r) :
  Calls Tryd.prog 61 #[.slice A0 l0.length c0] w fun e w' => e = .returned (.bool r) ∧ Below w.heap.size w w' := by
 have hu23 := Tryd.underlying23; have HR0 := Aside0.mk hr0; have HC0 := Aside0.mk hc0; clear hr0 hc0; have HB := Aside0.mk (Below.refl w.heap.size w); have H : (if (l0.length : Int) > 5 then (some false) else (impl_opsOk.l0 k l0 (l0.length : Int) 0)) = some r := h; clear h
 by_cases c2 : (l0.length : Int) > 5
 ·
  rw [if_pos c2] at H
  have b1 : decide (5 < (l0.length : Int)) = true := decide_eq_true c2; have b2 : decide (5 < l0.length) = true := decide_eq_true (by omega); clear c2; obtain rfl := Option.some.inj H
  go_enter Tryd.func61, Tryd.ntmps61
  go_wp2
  go_ret
  exact ⟨by first | rfl | (simp [*, errW_none, errW_some] <;> rfl), upH HB.out⟩
 ·
  rw [if_neg c2] at H
  have b1 : decide (5 < (l0.length : Int)) = false := decide_eq_false c2; have b2 : decide (5 < l0.length) = false := decide_eq_false (by omega); clear c2; have H' := Aside0.mk H; clear H
  go_enter Tryd.func61, Tryd.ntmps61
  go_wp2
  (try simp only [Act.put, List.setIfInBounds_toArray, List.set_cons_zero, List.set_cons_succ])
  go_loopg [10] k (fun kq v10 w' => ∃ (a1 : Int), v10 = .int .i64 a1 ∧ Aside0 (impl_opsOk.l0 kq l0 (l0.length : Int) a1 = some r) ∧ Aside0 (kq ≤ k) ∧ Aside0 (Below w.heap.size w w'))
  case atStart => exact ⟨(0), (by first | rfl | (simp; done) | (simp [*]; done)), H', ⟨Nat.le_refl _⟩, ⟨upH HB.out⟩⟩
  case round =>
   clear H'; (try clear c2); (try clear b1); (try clear b2); (try clear p2); obtain ⟨a1, rfl, HA, HK1, HB⟩ := hrel
   cases gk with
   | zero => exact absurd HA.out (by simp [impl_opsOk.l0])
   | succ k1 =>
    have H := HA.out; clear HA
    simp only [impl_opsOk.l0] at H
    by_cases c3 : a1 < (l0.length : Int)
    ·
     rw [if_pos c3] at H
     have d0 : decide (a1 < (l0.length : Int)) = true := decide_eq_true c3; clear c3
     by_cases c4 : 0 ≤ a1
     ·
      rw [if_pos c4] at H
      replace c4 := decide_eq_true c4
      by_cases c5 : a1 < (l0.length : Int)
      ·
       rw [if_pos c5] at H
       replace c5 := decide_eq_true c5; obtain ⟨d1, A6, H⟩ := bindA H; (try dsimp only at H)
       by_cases c7 : d1 = true
       ·
        subst c7
        rw [if_pos rfl] at H
        have H' := Aside0.mk H; clear H; have p101 : 0 ≤ (a1 : Int) := of_decide_eq_true (by assumption); have q101 : a1 < (l0.length : Int) := of_decide_eq_true (by assumption); obtain ⟨ad101, b0, a3, a4, a5, a6, a7⟩ := at_T23 HR0.out a1 p101 q101
        cases b0
        replace a3 := (upc_ HB.out a3 :); replace a4 := (upc_ HB.out a4 :); replace a5 := (upc_ HB.out a5 :); replace a6 := (upc_ HB.out a6 :); replace a7 := (upc_ HB.out a7 :); replace p101 := eq_true p101; replace q101 := eq_true q101
        go_wp2_with (first | ((with_reducible refine gd_ 4 rfl ?_); refine bx_ 4 rfl #[.int .i64 0, .int .i64 0, .int .i64 0, .int .i64 0, .int .i64 0] 23 ?_; intro a8 hg w8 hbox hb; have a2 := Aside0.mk (hbox); have a9 := Aside0.mk ((by rw [hg]; exact (below_size (upH HB.out)) : w.heap.size ≤ a8)); replace HB := Aside0.mk (below_step (upH HB.out) hb); have b3 := a9; clear hb hbox hg; obtain ⟨d2, d3, d4, d5, d6⟩ := cc5_ a2.out; obtain ⟨d8, d9, e0, e1⟩ := cf4_ a2.out; have e3 := blk_frozen a2.out 4) | ((with_reducible refine gc_ 14 rfl ?_); refine gl_ (some 15) rfl Tryd.func14 #[.agg #[.int .i64 ((yaa l0 a1).f0), .int .i64 ((yaa l0 a1).f1), .int .i64 ((yaa l0 a1).f2), .int .i64 ((yaa l0 a1).f3), .int .i64 ((yaa l0 a1).f4)]] ?_; (with_reducible refine (impl_OpOk.calls k1 ((yaa l0 a1).f0) ((yaa l0 a1).f1) ((yaa l0 a1).f2) ((yaa l0 a1).f3) ((yaa l0 a1).f4) true _ A6.out).mono ?_); rintro e w10 ⟨rfl, hb⟩; refine ⟨_, rfl, ?_⟩; replace a2 := Aside0.mk (blk_below (g := a8) (o := .cells #[.int .i64 ((yaa l0 a1).f0), .int .i64 ((yaa l0 a1).f1), .int .i64 ((yaa l0 a1).f2), .int .i64 ((yaa l0 a1).f3), .int .i64 ((yaa l0 a1).f4)] 23 (0, 0)) (by (repeat refine oneB ?_); refine blk_put (cs := #[.int .i64 ((yaa l0 a1).f0), .int .i64 ((yaa l0 a1).f1), .int .i64 ((yaa l0 a1).f2), .int .i64 ((yaa l0 a1).f3), .int .i64 0]) ?_ 4 _ rfl; refine blk_put (cs := #[.int .i64 ((yaa l0 a1).f0), .int .i64 ((yaa l0 a1).f1), .int .i64 ((yaa l0 a1).f2), .int .i64 0, .int .i64 0]) ?_ 3 _ rfl; refine blk_put (cs := #[.int .i64 ((yaa l0 a1).f0), .int .i64 ((yaa l0 a1).f1), .int .i64 0, .int .i64 0, .int .i64 0]) ?_ 2 _ rfl; refine blk_put (cs := #[.int .i64 ((yaa l0 a1).f0), .int .i64 0, .int .i64 0, .int .i64 0, .int .i64 0]) ?_ 1 _ rfl; refine blk_put (cs := #[.int .i64 0, .int .i64 0, .int .i64 0, .int .i64 0, .int .i64 0]) ?_ 0 _ rfl; exact upB a2.out) hb); replace HB := Aside0.mk (below_step (by repeat (with_reducible first | exact HB.out | apply below_alloc | apply pw_below_drewN | apply below_drew1 | refine below_set ?_ (Aside0.out ‹_›))) hb); (try clear hb)))
        go_roundg k1
        case measure => have := HK1.out; omega
        case rel => exact ⟨(wrap64 (a1 + 1)), (by first | rfl | (simp; done) | (simp [*]; done)), H', ⟨by have := HK1.out; omega⟩, ⟨by repeat (with_reducible first | exact HB.out | apply below_alloc | apply pw_below_drewN | apply below_drew1 | refine below_set ?_ (Aside0.out ‹_›))⟩⟩
       ·
        replace c7 := Bool.eq_false_iff.mpr c7
        subst c7
        rw [if_neg (show ¬ (false = true) by decide)] at H
        obtain rfl := Option.some.inj H; have p101 : 0 ≤ (a1 : Int) := of_decide_eq_true (by assumption); have q101 : a1 < (l0.length : Int) := of_decide_eq_true (by assumption); obtain ⟨ad101, b0, a3, a4, a5, a6, a7⟩ := at_T23 HR0.out a1 p101 q101
        cases b0
        replace a3 := (upc_ HB.out a3 :); replace a4 := (upc_ HB.out a4 :); replace a5 := (upc_ HB.out a5 :); replace a6 := (upc_ HB.out a6 :); replace a7 := (upc_ HB.out a7 :); replace p101 := eq_true p101; replace q101 := eq_true q101
        go_wp2_with (first | ((with_reducible refine gd_ 4 rfl ?_); refine bx_ 4 rfl #[.int .i64 0, .int .i64 0, .int .i64 0, .int .i64 0, .int .i64 0] 23 ?_; intro a8 hg w11 hbox hb; have a2 := Aside0.mk (hbox); have a9 := Aside0.mk ((by rw [hg]; exact (below_size (upH HB.out)) : w.heap.size ≤ a8)); replace HB := Aside0.mk (below_step (upH HB.out) hb); have b3 := a9; clear hb hbox hg; obtain ⟨b4, b5, b6, b7, b8⟩ := cc5_ a2.out; obtain ⟨b9, c1, c6, c8⟩ := cf4_ a2.out; have c9 := blk_frozen a2.out 4) | ((with_reducible refine gc_ 14 rfl ?_); refine gl_ (some 15) rfl Tryd.func14 #[.agg #[.int .i64 ((yaa l0 a1).f0), .int .i64 ((yaa l0 a1).f1), .int .i64 ((yaa l0 a1).f2), .int .i64 ((yaa l0 a1).f3), .int .i64 ((yaa l0 a1).f4)]] ?_; (with_reducible refine (impl_OpOk.calls k1 ((yaa l0 a1).f0) ((yaa l0 a1).f1) ((yaa l0 a1).f2) ((yaa l0 a1).f3) ((yaa l0 a1).f4) false _ A6.out).mono ?_); rintro e w13 ⟨rfl, hb⟩; refine ⟨_, rfl, ?_⟩; replace a2 := Aside0.mk (blk_below (g := a8) (o := .cells #[.int .i64 ((yaa l0 a1).f0), .int .i64 ((yaa l0 a1).f1), .int .i64 ((yaa l0 a1).f2), .int .i64 ((yaa l0 a1).f3), .int .i64 ((yaa l0 a1).f4)] 23 (0, 0)) (by (repeat refine oneB ?_); refine blk_put (cs := #[.int .i64 ((yaa l0 a1).f0), .int .i64 ((yaa l0 a1).f1), .int .i64 ((yaa l0 a1).f2), .int .i64 ((yaa l0 a1).f3), .int .i64 0]) ?_ 4 _ rfl; refine blk_put (cs := #[.int .i64 ((yaa l0 a1).f0), .int .i64 ((yaa l0 a1).f1), .int .i64 ((yaa l0 a1).f2), .int .i64 0, .int .i64 0]) ?_ 3 _ rfl; refine blk_put (cs := #[.int .i64 ((yaa l0 a1).f0), .int .i64 ((yaa l0 a1).f1), .int .i64 0, .int .i64 0, .int .i64 0]) ?_ 2 _ rfl; refine blk_put (cs := #[.int .i64 ((yaa l0 a1).f0), .int .i64 0, .int .i64 0, .int .i64 0, .int .i64 0]) ?_ 1 _ rfl; refine blk_put (cs := #[.int .i64 0, .int .i64 0, .int .i64 0, .int .i64 0, .int .i64 0]) ?_ 0 _ rfl; exact upB a2.out) hb); replace HB := Aside0.mk (below_step (by repeat (with_reducible first | exact HB.out | apply below_alloc | apply pw_below_drewN | apply below_drew1 | refine below_set ?_ (Aside0.out ‹_›))) hb); (try clear hb)))
        go_ret
        exact ⟨by first | rfl | (simp [*, errW_none, errW_some] <;> rfl), by repeat (with_reducible first | exact HB.out | apply below_alloc | apply pw_below_drewN | apply below_drew1 | refine below_set ?_ (Aside0.out ‹_›))⟩
      ·
       rw [if_neg c5] at H
       exact absurd H (by simp)
     ·
      rw [if_neg c4] at H
      exact absurd H (by simp)
    ·
     rw [if_neg c3] at H
     have d0 : decide (a1 < (l0.length : Int)) = false := decide_eq_false c3; clear c3; obtain rfl := Option.some.inj H
     go_wp2
     go_ret
     exact ⟨by first | rfl | (simp [*, errW_none, errW_some] <;> rfl), upH HB.out⟩
end
section
open Go.Proofs.YtfafjpfigphchaaDoorW.PrintWords.Drawn0 renaming refl → yaa, step → yab

mutual
def impl_nameOk.j0 : Nat → ByteArray → Bool → Option (Bool)
 | 0, _, _ => none
 | k + 1, x0, x13 => if x13 = true then (some false) else (impl_nameOk.l0 k x0 (x0.size : Int) 0)
def impl_nameOk.l0 : Nat → ByteArray → Int → Int → Option (Bool)
 | 0, _, _, _ => none
 | k + 1, x0, x15, x16 => if x16 < x15 then (if 0 ≤ x16 then (if x16 < (x0.size : Int) then (if (bt x0 x16) ≥ 97 then (if (bt x0 x16) ≥ 48 then (if ((bt x0 x16) ≤ 122) then (impl_nameOk.l0 k x0 x15 (wrap64 (x16 + 1))) else (if ((bt x0 x16) ≤ 57) then (impl_nameOk.l0 k x0 x15 (wrap64 (x16 + 1))) else (some false))) else (if ((bt x0 x16) ≤ 122) then (impl_nameOk.l0 k x0 x15 (wrap64 (x16 + 1))) else (some false))) else (if (bt x0 x16) ≥ 48 then (if ((bt x0 x16) ≤ 57) then (impl_nameOk.l0 k x0 x15 (wrap64 (x16 + 1))) else (some false)) else (some false))) else (none)) else (none)) else (some true)
end
def impl_nameOk.f (k : Nat) (a0 : ByteArray) : Option (Bool) := if (a0.size : Int) < 1 then (impl_nameOk.j0 k a0 true) else (impl_nameOk.j0 k a0 (decide ((a0.size : Int) > 6)))
set_option maxHeartbeats 8000000 in
set_option maxRecDepth 100000 in
theorem impl_nameOk.calls (k : Nat) (a0 : ByteArray) (r : Bool) (w : World) (h : impl_nameOk.f k a0 = some r) :
  Calls Tryd.prog 62 #[.string a0] w fun e w' => e = .returned (.bool r) ∧ Drawn0 w w' := by
 have H : (if (a0.size : Int) < 1 then (impl_nameOk.j0 k a0 true) else (impl_nameOk.j0 k a0 (decide ((a0.size : Int) > 6)))) = some r := h; clear h; have HC2 := Aside0.mk H; clear H
 go_enter Tryd.func62, Tryd.ntmps62
 go_upto_region 1 with (fail)
 go_cut [13] (fun v13 wc => ∃ (kq : Nat) (a3 : Bool), v13 = .bool a3 ∧ Aside0 (impl_nameOk.j0 kq a0 a3 = some r) ∧ Aside0 (kq ≤ k) ∧ Drawn0 w wc)
 case first =>
  have H := HC2.out; clear HC2
  by_cases c3 : (a0.size : Int) < 1
  ·
   rw [if_pos c3] at H
   have a2 : decide ((a0.size : Int) < 1) = true := decide_eq_true c3; have a6 : decide (a0.size < 1) = true := decide_eq_true (by omega); clear c3
   (first | rw [a2] | (simp only [i64_w, i32_w]; rw [a2]) | skip)
   have H' := Aside0.mk H; clear H
   go_wp2
   go_meet
   case rel => exact ⟨_, (true), (by first | rfl | (simp; done) | (simp [*]; done)), H', ⟨by first | omega | exact Nat.le_refl _⟩, by repeat (first | exact yaa _ | apply yab)⟩
  ·
   rw [if_neg c3] at H
   have a2 : decide ((a0.size : Int) < 1) = false := decide_eq_false c3; have a6 : decide (a0.size < 1) = false := decide_eq_false (by omega); clear c3
   (first | rw [a2] | (simp only [i64_w, i32_w]; rw [a2]) | skip)
   have H' := Aside0.mk H; clear H
   go_wp2
   go_meet
   case rel => exact ⟨_, (decide ((a0.size : Int) > 6)), (by first | rfl | (simp; done) | (simp [*]; done)), H', ⟨by first | omega | exact Nat.le_refl _⟩, by repeat (first | exact yaa _ | apply yab)⟩
 case rest =>
  clear HC2; (try clear p2); (try clear c3); (try clear a2); (try clear a6); obtain ⟨kq, a3, rfl, HA, HJ1, ⟨mc1, rfl⟩⟩ := hcut
  cases kq with
  | zero => exact absurd HA.out (by simp [impl_nameOk.j0])
  | succ kj1 =>
   have H := HA.out; clear HA
   simp only [impl_nameOk.j0] at H
   by_cases c4 : a3 = true
   ·
    subst c4
    rw [if_pos rfl] at H
    obtain rfl := Option.some.inj H
    go_wp2
    go_ret
    exact ⟨by first | rfl | (simp; done) | (simp [*]; done), by repeat (first | exact yaa _ | apply yab)⟩
   ·
    replace c4 := Bool.eq_false_iff.mpr c4
    subst c4
    rw [if_neg (show ¬ (false = true) by decide)] at H
    have H' := Aside0.mk H; clear H
    go_wp2
    (try simp only [Act.put, List.setIfInBounds_toArray, List.set_cons_zero, List.set_cons_succ])
    go_loopg [16] kj1 (fun kq v16 w' => ∃ (a1 : Int), v16 = .int .i64 a1 ∧ Aside0 (impl_nameOk.l0 kq a0 (a0.size : Int) a1 = some r) ∧ Aside0 (kq ≤ kj1) ∧ Drawn0 w w')
    case atStart => exact ⟨(0), (by first | rfl | (simp; done) | (simp [*]; done)), H', ⟨Nat.le_refl _⟩, by repeat (first | exact yaa _ | apply yab)⟩
    case round =>
     clear H'; (try clear c1); (try clear p2); (try clear c3); (try clear a2); (try clear a6); (try clear c4); (try clear p2); obtain ⟨a1, rfl, HA, HK2, ⟨m2, rfl⟩⟩ := hrel
     cases gk with
     | zero => exact absurd HA.out (by simp [impl_nameOk.l0])
     | succ k2 =>
      have H := HA.out; clear HA
      simp only [impl_nameOk.l0] at H
      by_cases c5 : a1 < (a0.size : Int)
      ·
       rw [if_pos c5] at H
       have b5 : decide (a1 < (a0.size : Int)) = true := decide_eq_true c5; clear c5
       by_cases c6 : 0 ≤ a1
       ·
        rw [if_pos c6] at H
        replace c6 := decide_eq_true c6
        by_cases c7 : a1 < (a0.size : Int)
        ·
         rw [if_pos c7] at H
         replace c7 := decide_eq_true c7
         by_cases c9 : (bt a0 a1) ≥ 97
         ·
          rw [if_pos c9] at H
          have b6 : decide (97 ≤ (bt a0 a1)) = true := decide_eq_true c9; clear c9
          by_cases c12 : (bt a0 a1) ≥ 48
          ·
           rw [if_pos c12] at H
           have a7 : decide (48 ≤ (bt a0 a1)) = true := decide_eq_true c12; clear c12
           by_cases c14 : ((bt a0 a1) ≤ 122)
           ·
            rw [if_pos c14] at H
            have a8 : decide ((bt a0 a1) ≤ 122) = true := decide_eq_true c14; clear c14; have H' := Aside0.mk H; clear H; have p8 : 0 ≤ (a1 : Int) := of_decide_eq_true (by assumption); have q8 : a1 < (a0.size : Int) := of_decide_eq_true (by assumption); have hx8 := bt_at a0 a1; replace p8 := eq_true p8; replace q8 := eq_true q8; have p10 : 0 ≤ (a1 : Int) := of_decide_eq_true (by assumption); have q10 : a1 < (a0.size : Int) := of_decide_eq_true (by assumption); have a4 := bt_at a0 a1; replace p10 := eq_true p10; replace q10 := eq_true q10; have p11 : 0 ≤ (a1 : Int) := of_decide_eq_true (by assumption); have q11 : a1 < (a0.size : Int) := of_decide_eq_true (by assumption); have a5 := bt_at a0 a1; replace p11 := eq_true p11; replace q11 := eq_true q11; have p13 : 0 ≤ (a1 : Int) := of_decide_eq_true (by assumption); have q13 : a1 < (a0.size : Int) := of_decide_eq_true (by assumption); have a9 := bt_at a0 a1; replace p13 := eq_true p13; replace q13 := eq_true q13
            go_wp2
            go_roundg k2
            case measure => have := HJ1.out; have := HK2.out; omega
            case rel => exact ⟨(wrap64 (a1 + 1)), (by first | rfl | (simp; done) | (simp [*]; done)), H', ⟨by have := HJ1.out; have := HK2.out; omega⟩, by repeat (first | exact yaa _ | apply yab)⟩
           ·
            rw [if_neg c14] at H
            have a8 : decide ((bt a0 a1) ≤ 122) = false := decide_eq_false c14; clear c14
            by_cases c15 : ((bt a0 a1) ≤ 57)
            ·
             rw [if_pos c15] at H
             have b0 : decide ((bt a0 a1) ≤ 57) = true := decide_eq_true c15; clear c15; have H' := Aside0.mk H; clear H; have p8 : 0 ≤ (a1 : Int) := of_decide_eq_true (by assumption); have q8 : a1 < (a0.size : Int) := of_decide_eq_true (by assumption); have hx8 := bt_at a0 a1; replace p8 := eq_true p8; replace q8 := eq_true q8; have p10 : 0 ≤ (a1 : Int) := of_decide_eq_true (by assumption); have q10 : a1 < (a0.size : Int) := of_decide_eq_true (by assumption); have a4 := bt_at a0 a1; replace p10 := eq_true p10; replace q10 := eq_true q10; have p11 : 0 ≤ (a1 : Int) := of_decide_eq_true (by assumption); have q11 : a1 < (a0.size : Int) := of_decide_eq_true (by assumption); have a5 := bt_at a0 a1; replace p11 := eq_true p11; replace q11 := eq_true q11; have p13 : 0 ≤ (a1 : Int) := of_decide_eq_true (by assumption); have q13 : a1 < (a0.size : Int) := of_decide_eq_true (by assumption); have a9 := bt_at a0 a1; replace p13 := eq_true p13; replace q13 := eq_true q13
             go_wp2
             go_roundg k2
             case measure => have := HJ1.out; have := HK2.out; omega
             case rel => exact ⟨(wrap64 (a1 + 1)), (by first | rfl | (simp; done) | (simp [*]; done)), H', ⟨by have := HJ1.out; have := HK2.out; omega⟩, by repeat (first | exact yaa _ | apply yab)⟩
            ·
             rw [if_neg c15] at H
             have b0 : decide ((bt a0 a1) ≤ 57) = false := decide_eq_false c15; clear c15; obtain rfl := Option.some.inj H; have p8 : 0 ≤ (a1 : Int) := of_decide_eq_true (by assumption); have q8 : a1 < (a0.size : Int) := of_decide_eq_true (by assumption); have hx8 := bt_at a0 a1; replace p8 := eq_true p8; replace q8 := eq_true q8; have p10 : 0 ≤ (a1 : Int) := of_decide_eq_true (by assumption); have q10 : a1 < (a0.size : Int) := of_decide_eq_true (by assumption); have a4 := bt_at a0 a1; replace p10 := eq_true p10; replace q10 := eq_true q10; have p11 : 0 ≤ (a1 : Int) := of_decide_eq_true (by assumption); have q11 : a1 < (a0.size : Int) := of_decide_eq_true (by assumption); have a5 := bt_at a0 a1; replace p11 := eq_true p11; replace q11 := eq_true q11; have p13 : 0 ≤ (a1 : Int) := of_decide_eq_true (by assumption); have q13 : a1 < (a0.size : Int) := of_decide_eq_true (by assumption); have a9 := bt_at a0 a1; replace p13 := eq_true p13; replace q13 := eq_true q13
             go_wp2
             go_ret
             exact ⟨by first | rfl | (simp; done) | (simp [*]; done), by repeat (first | exact yaa _ | apply yab)⟩
          ·
           rw [if_neg c12] at H
           have a7 : decide (48 ≤ (bt a0 a1)) = false := decide_eq_false c12; clear c12
           by_cases c16 : ((bt a0 a1) ≤ 122)
           ·
            rw [if_pos c16] at H
            have b1 : decide ((bt a0 a1) ≤ 122) = true := decide_eq_true c16; clear c16; have H' := Aside0.mk H; clear H; have p8 : 0 ≤ (a1 : Int) := of_decide_eq_true (by assumption); have q8 : a1 < (a0.size : Int) := of_decide_eq_true (by assumption); have hx8 := bt_at a0 a1; replace p8 := eq_true p8; replace q8 := eq_true q8; have p10 : 0 ≤ (a1 : Int) := of_decide_eq_true (by assumption); have q10 : a1 < (a0.size : Int) := of_decide_eq_true (by assumption); have a4 := bt_at a0 a1; replace p10 := eq_true p10; replace q10 := eq_true q10; have p11 : 0 ≤ (a1 : Int) := of_decide_eq_true (by assumption); have q11 : a1 < (a0.size : Int) := of_decide_eq_true (by assumption); have a5 := bt_at a0 a1; replace p11 := eq_true p11; replace q11 := eq_true q11
            go_wp2
            go_roundg k2
            case measure => have := HJ1.out; have := HK2.out; omega
            case rel => exact ⟨(wrap64 (a1 + 1)), (by first | rfl | (simp; done) | (simp [*]; done)), H', ⟨by have := HJ1.out; have := HK2.out; omega⟩, by repeat (first | exact yaa _ | apply yab)⟩
           ·
            rw [if_neg c16] at H
            have b1 : decide ((bt a0 a1) ≤ 122) = false := decide_eq_false c16; clear c16; obtain rfl := Option.some.inj H; have p8 : 0 ≤ (a1 : Int) := of_decide_eq_true (by assumption); have q8 : a1 < (a0.size : Int) := of_decide_eq_true (by assumption); have hx8 := bt_at a0 a1; replace p8 := eq_true p8; replace q8 := eq_true q8; have p10 : 0 ≤ (a1 : Int) := of_decide_eq_true (by assumption); have q10 : a1 < (a0.size : Int) := of_decide_eq_true (by assumption); have a4 := bt_at a0 a1; replace p10 := eq_true p10; replace q10 := eq_true q10; have p11 : 0 ≤ (a1 : Int) := of_decide_eq_true (by assumption); have q11 : a1 < (a0.size : Int) := of_decide_eq_true (by assumption); have a5 := bt_at a0 a1; replace p11 := eq_true p11; replace q11 := eq_true q11
            go_wp2
            go_ret
            exact ⟨by first | rfl | (simp; done) | (simp [*]; done), by repeat (first | exact yaa _ | apply yab)⟩
         ·
          rw [if_neg c9] at H
          have b6 : decide (97 ≤ (bt a0 a1)) = false := decide_eq_false c9; clear c9
          by_cases c18 : (bt a0 a1) ≥ 48
          ·
           rw [if_pos c18] at H
           have b2 : decide (48 ≤ (bt a0 a1)) = true := decide_eq_true c18; clear c18
           by_cases c20 : ((bt a0 a1) ≤ 57)
           ·
            rw [if_pos c20] at H
            have b3 : decide ((bt a0 a1) ≤ 57) = true := decide_eq_true c20; clear c20; have H' := Aside0.mk H; clear H; have p8 : 0 ≤ (a1 : Int) := of_decide_eq_true (by assumption); have q8 : a1 < (a0.size : Int) := of_decide_eq_true (by assumption); have hx8 := bt_at a0 a1; replace p8 := eq_true p8; replace q8 := eq_true q8; have p17 : 0 ≤ (a1 : Int) := of_decide_eq_true (by assumption); have q17 : a1 < (a0.size : Int) := of_decide_eq_true (by assumption); have b4 := bt_at a0 a1; replace p17 := eq_true p17; replace q17 := eq_true q17; have p19 : 0 ≤ (a1 : Int) := of_decide_eq_true (by assumption); have q19 : a1 < (a0.size : Int) := of_decide_eq_true (by assumption); have b7 := bt_at a0 a1; replace p19 := eq_true p19; replace q19 := eq_true q19
            go_wp2
            go_roundg k2
            case measure => have := HJ1.out; have := HK2.out; omega
            case rel => exact ⟨(wrap64 (a1 + 1)), (by first | rfl | (simp; done) | (simp [*]; done)), H', ⟨by have := HJ1.out; have := HK2.out; omega⟩, by repeat (first | exact yaa _ | apply yab)⟩
           ·
            rw [if_neg c20] at H
            have b3 : decide ((bt a0 a1) ≤ 57) = false := decide_eq_false c20; clear c20; obtain rfl := Option.some.inj H; have p8 : 0 ≤ (a1 : Int) := of_decide_eq_true (by assumption); have q8 : a1 < (a0.size : Int) := of_decide_eq_true (by assumption); have hx8 := bt_at a0 a1; replace p8 := eq_true p8; replace q8 := eq_true q8; have p17 : 0 ≤ (a1 : Int) := of_decide_eq_true (by assumption); have q17 : a1 < (a0.size : Int) := of_decide_eq_true (by assumption); have b4 := bt_at a0 a1; replace p17 := eq_true p17; replace q17 := eq_true q17; have p19 : 0 ≤ (a1 : Int) := of_decide_eq_true (by assumption); have q19 : a1 < (a0.size : Int) := of_decide_eq_true (by assumption); have b7 := bt_at a0 a1; replace p19 := eq_true p19; replace q19 := eq_true q19
            go_wp2
            go_ret
            exact ⟨by first | rfl | (simp; done) | (simp [*]; done), by repeat (first | exact yaa _ | apply yab)⟩
          ·
           rw [if_neg c18] at H
           have b2 : decide (48 ≤ (bt a0 a1)) = false := decide_eq_false c18; clear c18; obtain rfl := Option.some.inj H; have p8 : 0 ≤ (a1 : Int) := of_decide_eq_true (by assumption); have q8 : a1 < (a0.size : Int) := of_decide_eq_true (by assumption); have hx8 := bt_at a0 a1; replace p8 := eq_true p8; replace q8 := eq_true q8; have p17 : 0 ≤ (a1 : Int) := of_decide_eq_true (by assumption); have q17 : a1 < (a0.size : Int) := of_decide_eq_true (by assumption); have b4 := bt_at a0 a1; replace p17 := eq_true p17; replace q17 := eq_true q17
           go_wp2
           go_ret
           exact ⟨by first | rfl | (simp; done) | (simp [*]; done), by repeat (first | exact yaa _ | apply yab)⟩
        ·
         rw [if_neg c7] at H
         exact absurd H (by simp)
       ·
        rw [if_neg c6] at H
        exact absurd H (by simp)
      ·
       rw [if_neg c5] at H
       have b5 : decide (a1 < (a0.size : Int)) = false := decide_eq_false c5; clear c5; obtain rfl := Option.some.inj H
       go_wp2
       go_ret
       exact ⟨by first | rfl | (simp; done) | (simp [*]; done), by repeat (first | exact yaa _ | apply yab)⟩
end
section
open Go.Proofs.YtfafjpfigphchaaDoorW.PrintWords.Aside0 renaming mk → yaa

def impl_AskOk.f (k : Nat) (l0_0 : List (S23)) (a0_1 : ByteArray) (a0_2 : Int) : Option (Bool) := (impl_opsOk.f k l0_0).bind fun t102 => (if t102 = true then ((impl_nameOk.f k a0_1).bind fun t103 => (if t103 = true then ((impl_within.f a0_2 0 9999).bind fun t104 => (some t104)) else (some false))) else (some false))
set_option maxHeartbeats 8000000 in
set_option maxRecDepth 100000 in
theorem impl_AskOk.calls (k : Nat) (A0_0 : Option Addr) (c0_0 : Nat) (l0_0 : List (S23)) (a0_1 : ByteArray) (a0_2 : Int) (r : Bool) (w : World) (hr0_0 : Kd.C k23 w A0_0 l0_0.length l0_0) (hc0_0 : l0_0.length ≤ c0_0) (h : impl_AskOk.f k l0_0 a0_1 a0_2 = some r) :
  Calls Tryd.prog 27 #[.agg #[.slice A0_0 l0_0.length c0_0, .string a0_1, .int .i64 a0_2]] w fun e w' => e = .returned (.bool r) ∧ Below w.heap.size w w' := by
 have hu37 := Tryd.underlying37; have HR0_0 := yaa hr0_0; have HC0_0 := yaa hc0_0; clear hr0_0 hc0_0; have HB := yaa (Below.refl w.heap.size w); have H : ((impl_opsOk.f k l0_0).bind fun a9 => (if a9 = true then ((impl_nameOk.f k a0_1).bind fun b0 => (if b0 = true then ((impl_within.f a0_2 0 9999).bind fun b1 => (some b1)) else (some false))) else (some false))) = some r := h; clear h; obtain ⟨a9, A2, H⟩ := bindA H; (try dsimp only at H)
 by_cases c3 : a9 = true
 ·
  subst c3
  rw [if_pos rfl] at H
  obtain ⟨b0, A4, H⟩ := bindA H; (try dsimp only at H)
  by_cases c5 : b0 = true
  ·
   subst c5
   rw [if_pos rfl] at H
   obtain ⟨b1, A6, H⟩ := bindA H; (try dsimp only at H); obtain rfl := Option.some.inj H
   go_enter Tryd.func27, Tryd.ntmps27
   go_wp2_with (first | ((with_reducible refine gd_ 1 rfl ?_); refine bx_ 1 rfl #[.slice A0_0 l0_0.length c0_0, .string a0_1, .int .i64 a0_2] 37 ?_; intro a4 hg w7 hbox hb; have a3 := yaa (hbox); have a5 := yaa ((by rw [hg]; exact (below_size (upH HB.out)) : w.heap.size ≤ a4)); replace HB := yaa (below_step (upH HB.out) hb); have a8 := a5; clear hb hbox hg; obtain ⟨d8, d9, e0⟩ := cc3_ a3.out; obtain ⟨e1, e2⟩ := cf2_ a3.out; have e3 := blk_frozen a3.out 2) | ((with_reducible refine gc_ 61 rfl ?_); refine gl_ (some 5) rfl Tryd.func61 #[.slice A0_0 l0_0.length c0_0] ?_; (with_reducible refine (impl_opsOk.calls k _ _ l0_0 true _ ?side1 ?side2 A2.out).mono ?_); (case side1 => repeat (first | exact (Kd.C_below HR0_0.out HB.out) | (with_reducible refine Kd.C_alloc ?_ _) | (with_reducible refine Kd.C_drewN ?_ _) | (with_reducible refine Kd.C_drew ?_))); (case side2 => exact HC0_0.out); rintro e w9 ⟨rfl, hb⟩; refine ⟨_, rfl, ?_⟩; replace a3 := yaa (blk_below (upB a3.out) hb); replace HB := yaa (below_step (by repeat (with_reducible first | exact HB.out | apply below_alloc | apply pw_below_drewN | apply below_drew1 | refine below_set ?_ (Aside0.out ‹_›))) hb); (try clear hb); obtain ⟨b2, b3, b4⟩ := cc3_ a3.out; obtain ⟨b5, b6⟩ := cf2_ a3.out; have b7 := blk_frozen a3.out 2) | (go_at_call 62; (with_reducible refine (impl_nameOk.calls k a0_1 true _ A4.out).mono ?_); rintro e w' ⟨rfl, ⟨nd, rfl⟩⟩) | (go_at_call 43; (with_reducible refine (impl_within.calls a0_2 0 9999 b1 _ A6.out).mono ?_); rintro e w' ⟨rfl, ⟨nd, rfl⟩⟩))
   go_ret
   exact ⟨by first | rfl | (simp [*, errW_none, errW_some] <;> rfl), by repeat (with_reducible first | exact HB.out | apply below_alloc | apply pw_below_drewN | apply below_drew1 | refine below_set ?_ (Aside0.out ‹_›))⟩
  ·
   replace c5 := Bool.eq_false_iff.mpr c5
   subst c5
   rw [if_neg (show ¬ (false = true) by decide)] at H
   obtain rfl := Option.some.inj H
   go_enter Tryd.func27, Tryd.ntmps27
   go_wp2_with (first | ((with_reducible refine gd_ 1 rfl ?_); refine bx_ 1 rfl #[.slice A0_0 l0_0.length c0_0, .string a0_1, .int .i64 a0_2] 37 ?_; intro a4 hg w11 hbox hb; have a3 := yaa (hbox); have a5 := yaa ((by rw [hg]; exact (below_size (upH HB.out)) : w.heap.size ≤ a4)); replace HB := yaa (below_step (upH HB.out) hb); have a8 := a5; clear hb hbox hg; obtain ⟨b8, b9, c0⟩ := cc3_ a3.out; obtain ⟨c1, c2⟩ := cf2_ a3.out; have c4 := blk_frozen a3.out 2) | ((with_reducible refine gc_ 61 rfl ?_); refine gl_ (some 5) rfl Tryd.func61 #[.slice A0_0 l0_0.length c0_0] ?_; (with_reducible refine (impl_opsOk.calls k _ _ l0_0 true _ ?side1 ?side2 A2.out).mono ?_); (case side1 => repeat (first | exact (Kd.C_below HR0_0.out HB.out) | (with_reducible refine Kd.C_alloc ?_ _) | (with_reducible refine Kd.C_drewN ?_ _) | (with_reducible refine Kd.C_drew ?_))); (case side2 => exact HC0_0.out); rintro e w13 ⟨rfl, hb⟩; refine ⟨_, rfl, ?_⟩; replace a3 := yaa (blk_below (upB a3.out) hb); replace HB := yaa (below_step (by repeat (with_reducible first | exact HB.out | apply below_alloc | apply pw_below_drewN | apply below_drew1 | refine below_set ?_ (Aside0.out ‹_›))) hb); (try clear hb); obtain ⟨c6, c7, c8⟩ := cc3_ a3.out; obtain ⟨c9, d0⟩ := cf2_ a3.out; have d1 := blk_frozen a3.out 2) | (go_at_call 62; (with_reducible refine (impl_nameOk.calls k a0_1 false _ A4.out).mono ?_); rintro e w' ⟨rfl, ⟨nd, rfl⟩⟩))
   go_ret
   exact ⟨by first | rfl | (simp [*, errW_none, errW_some] <;> rfl), by repeat (with_reducible first | exact HB.out | apply below_alloc | apply pw_below_drewN | apply below_drew1 | refine below_set ?_ (Aside0.out ‹_›))⟩
 ·
  replace c3 := Bool.eq_false_iff.mpr c3
  subst c3
  rw [if_neg (show ¬ (false = true) by decide)] at H
  obtain rfl := Option.some.inj H
  go_enter Tryd.func27, Tryd.ntmps27
  go_wp2_with (first | ((with_reducible refine gd_ 1 rfl ?_); refine bx_ 1 rfl #[.slice A0_0 l0_0.length c0_0, .string a0_1, .int .i64 a0_2] 37 ?_; intro a4 hg w15 hbox hb; have a3 := yaa (hbox); have a5 := yaa ((by rw [hg]; exact (below_size (upH HB.out)) : w.heap.size ≤ a4)); replace HB := yaa (below_step (upH HB.out) hb); have a8 := a5; clear hb hbox hg; obtain ⟨d2, d3, d4⟩ := cc3_ a3.out; obtain ⟨d5, d6⟩ := cf2_ a3.out; have d7 := blk_frozen a3.out 2) | ((with_reducible refine gc_ 61 rfl ?_); refine gl_ (some 5) rfl Tryd.func61 #[.slice A0_0 l0_0.length c0_0] ?_; (with_reducible refine (impl_opsOk.calls k _ _ l0_0 false _ ?side1 ?side2 A2.out).mono ?_); (case side1 => repeat (first | exact (Kd.C_below HR0_0.out HB.out) | (with_reducible refine Kd.C_alloc ?_ _) | (with_reducible refine Kd.C_drewN ?_ _) | (with_reducible refine Kd.C_drew ?_))); (case side2 => exact HC0_0.out); rintro e w17 ⟨rfl, hb⟩; refine ⟨_, rfl, ?_⟩; replace a3 := yaa (blk_below (upB a3.out) hb); replace HB := yaa (below_step (by repeat (with_reducible first | exact HB.out | apply below_alloc | apply pw_below_drewN | apply below_drew1 | refine below_set ?_ (Aside0.out ‹_›))) hb); (try clear hb)))
  go_ret
  exact ⟨by first | rfl | (simp [*, errW_none, errW_some] <;> rfl), by repeat (with_reducible first | exact HB.out | apply below_alloc | apply pw_below_drewN | apply below_drew1 | refine below_set ?_ (Aside0.out ‹_›))⟩
end
section
mutual
def impl_numberRead.j0 : Nat → ByteArray → Bool → Option (Int × Bool)
 | 0, _, _ => none
 | k + 1, x0, x22 => if x22 = true then (some (0, false)) else (impl_numberRead.l0 k x0 0 (x0.size : Int) 0)
def impl_numberRead.l0 : Nat → ByteArray → Int → Int → Int → Option (Int × Bool)
 | 0, _, _, _, _ => none
 | k + 1, x0, x4, x24, x25 => if x25 < x24 then (if 0 ≤ x25 then (if x25 < (x0.size : Int) then (if (bt x0 x25) < 48 then (some (0, false)) else (if (bt x0 x25) > 57 then (some (0, false)) else (impl_numberRead.l0 k x0 (wrap64 ((wrap64 (10 * x4)) + (((bt x0 x25) - 48) % 256))) x24 (wrap64 (x25 + 1))))) else (none)) else (none)) else (some (x4, true))
end
def impl_numberRead.f (k : Nat) (a0 : ByteArray) : Option (Int × Bool) := if a0.toList = ([] : List UInt8) then (impl_numberRead.j0 k a0 true) else (if (a0.size : Int) > 6 then (impl_numberRead.j0 k a0 true) else (if 0 < (a0.size : Int) then (if (bt a0 0) = 48 then (impl_numberRead.j0 k a0 (decide ((a0.size : Int) > 1))) else (impl_numberRead.j0 k a0 false)) else (none)))
set_option maxHeartbeats 8000000 in
set_option maxRecDepth 100000 in
theorem impl_numberRead.calls (k : Nat) (a0 : ByteArray) (r1 : Int) (r2 : Bool) (w : World) (h : impl_numberRead.f k a0 = some (r1, r2)) :
  Calls Tryd.prog 34 #[.string a0] w fun e w' => e = .returned (.tuple #[.int .i64 r1, .bool r2]) ∧ Drawn0 w w' := by
 have H : (if a0.toList = ([] : List UInt8) then (impl_numberRead.j0 k a0 true) else (if (a0.size : Int) > 6 then (impl_numberRead.j0 k a0 true) else (if 0 < (a0.size : Int) then (if (bt a0 0) = 48 then (impl_numberRead.j0 k a0 (decide ((a0.size : Int) > 1))) else (impl_numberRead.j0 k a0 false)) else (none)))) = some (r1, r2) := h; clear h; have HC2 := Aside0.mk H; clear H
 go_enter Tryd.func34, Tryd.ntmps34
 go_upto_region 1 with (fail)
 go_cut [22] (fun v22 wc => ∃ (kq : Nat) (a3 : Bool), v22 = .bool a3 ∧ Aside0 (impl_numberRead.j0 kq a0 a3 = some (r1, r2)) ∧ Aside0 (kq ≤ k) ∧ Drawn0 w wc)
 case first =>
  have H := HC2.out; clear HC2
  by_cases c3 : a0.toList = ([] : List UInt8)
  ·
   rw [if_pos c3] at H
   have a2 := beq_iff_eq.mpr c3; have a5 := bne_eq_false_iff_eq.mpr c3; clear c3
   (first | rw [a2] | (simp only [i64_w, i32_w]; rw [a2]) | skip)
   have H' := Aside0.mk H; clear H
   go_wp2
   go_meet
   case rel => exact ⟨_, (true), (by first | rfl | (simp; done) | (simp [*]; done)), H', ⟨by first | omega | exact Nat.le_refl _⟩, by repeat (first | exact Drawn0.refl _ | apply Drawn0.step)⟩
  ·
   rw [if_neg c3] at H
   have a2 := beq_eq_false_iff_ne.mpr c3; have a5 := bne_iff_ne.mpr c3
   (first | rw [a2] | (simp only [i64_w, i32_w]; rw [a2]) | skip)
   by_cases c4 : (a0.size : Int) > 6
   ·
    rw [if_pos c4] at H
    have a6 : decide (6 < (a0.size : Int)) = true := decide_eq_true c4; have a7 : decide (6 < a0.size) = true := decide_eq_true (by omega); clear c4; have H' := Aside0.mk H; clear H
    go_wp2
    go_meet
    case rel => exact ⟨_, (true), (by first | rfl | (simp; done) | (simp [*]; done)), H', ⟨by first | omega | exact Nat.le_refl _⟩, by repeat (first | exact Drawn0.refl _ | apply Drawn0.step)⟩
   ·
    rw [if_neg c4] at H
    have a6 : decide (6 < (a0.size : Int)) = false := decide_eq_false c4; have a7 : decide (6 < a0.size) = false := decide_eq_false (by omega); clear c4
    by_cases c5 : 0 < (a0.size : Int)
    ·
     rw [if_pos c5] at H
     have b0 : decide (0 < (a0.size : Int)) = true := decide_eq_true c5; have b1 : decide (0 < a0.size) = true := decide_eq_true (by omega); clear c5
     by_cases c7 : (bt a0 0) = 48
     ·
      rw [if_pos c7] at H
      have a8 := beq_iff_eq.mpr c7; have a9 := bne_eq_false_iff_eq.mpr c7; clear c7; have H' := Aside0.mk H; clear H; have p6 : 0 ≤ (0 : Int) := (by omega); have q6 : 0 < a0.size := (by have : (0 : Int) < (a0.size : Int) := of_decide_eq_true (by assumption); omega); have hx6 : ∀ h : 0 < a0.size, ((a0[0]'h).toNat : Int) = bt a0 0 := bt_at a0 0; clear p6; have qi6 : (0 < (a0.size : Int)) = True := eq_true (of_decide_eq_true (by assumption)); replace q6 := eq_true q6
      go_wp2
      go_meet
      case rel => exact ⟨_, (decide ((a0.size : Int) > 1)), (by first | rfl | (simp; done) | (simp [*]; done)), H', ⟨by first | omega | exact Nat.le_refl _⟩, by repeat (first | exact Drawn0.refl _ | apply Drawn0.step)⟩
     ·
      rw [if_neg c7] at H
      have a8 := beq_eq_false_iff_ne.mpr c7; have a9 := bne_iff_ne.mpr c7; have H' := Aside0.mk H; clear H; have p6 : 0 ≤ (0 : Int) := (by omega); have q6 : 0 < a0.size := (by have : (0 : Int) < (a0.size : Int) := of_decide_eq_true (by assumption); omega); have hx6 : ∀ h : 0 < a0.size, ((a0[0]'h).toNat : Int) = bt a0 0 := bt_at a0 0; clear p6; have qi6 : (0 < (a0.size : Int)) = True := eq_true (of_decide_eq_true (by assumption)); replace q6 := eq_true q6
      go_wp2
      go_meet
      case rel => exact ⟨_, (false), (by first | rfl | (simp; done) | (simp [*]; done)), H', ⟨by first | omega | exact Nat.le_refl _⟩, by repeat (first | exact Drawn0.refl _ | apply Drawn0.step)⟩
    ·
     rw [if_neg c5] at H
     exact absurd H (by simp)
 case rest =>
  clear HC2; (try clear p2); (try clear c3); (try clear a2); (try clear a5); (try clear c4); (try clear a6); (try clear a7); (try clear c5); (try clear b0); (try clear b1); (try clear p6); (try clear q6); (try clear hx6); (try clear qi6); (try clear c7); (try clear a8); (try clear a9); (try clear p6); (try clear q6); obtain ⟨kq, a3, rfl, HA, HJ1, ⟨mc1, rfl⟩⟩ := hcut
  cases kq with
  | zero => exact absurd HA.out (by simp [impl_numberRead.j0])
  | succ kj1 =>
   have H := HA.out; clear HA
   simp only [impl_numberRead.j0] at H
   by_cases c8 : a3 = true
   ·
    subst c8
    rw [if_pos rfl] at H
    simp only [Option.some.injEq, Prod.mk.injEq] at H
    obtain ⟨rfl, rfl⟩ := H
    go_wp2
    go_ret2
    exact ⟨by first | rfl | (simp; done) | (simp [*]; done), by repeat (first | exact Drawn0.refl _ | apply Drawn0.step)⟩
   ·
    replace c8 := Bool.eq_false_iff.mpr c8
    subst c8
    rw [if_neg (show ¬ (false = true) by decide)] at H
    have H' := Aside0.mk H; clear H
    go_wp2
    (try simp only [Act.put, List.setIfInBounds_toArray, List.set_cons_zero, List.set_cons_succ])
    go_loopg [4, 25] kj1 (fun kq v4 v25 w' => ∃ (a4 : Int) (a1 : Int), v4 = .int .i64 a4 ∧ v25 = .int .i64 a1 ∧ Aside0 (impl_numberRead.l0 kq a0 a4 (a0.size : Int) a1 = some (r1, r2)) ∧ Aside0 (kq ≤ kj1) ∧ Drawn0 w w')
    case atStart => exact ⟨(0), (0), (by first | rfl | (simp; done) | (simp [*]; done)), (by first | rfl | (simp; done) | (simp [*]; done)), H', ⟨Nat.le_refl _⟩, by repeat (first | exact Drawn0.refl _ | apply Drawn0.step)⟩
    case round =>
     clear H'; (try clear c1); (try clear p2); (try clear c3); (try clear a2); (try clear a5); (try clear c4); (try clear a6); (try clear a7); (try clear c5); (try clear b0); (try clear b1); (try clear p6); (try clear q6); (try clear hx6); (try clear qi6); (try clear c7); (try clear a8); (try clear a9); (try clear c8); (try clear p2); (try clear p6); (try clear q6); obtain ⟨a4, a1, rfl, rfl, HA, HK2, ⟨m2, rfl⟩⟩ := hrel
     cases gk with
     | zero => exact absurd HA.out (by simp [impl_numberRead.l0])
     | succ k2 =>
      have H := HA.out; clear HA
      simp only [impl_numberRead.l0] at H
      by_cases c9 : a1 < (a0.size : Int)
      ·
       rw [if_pos c9] at H
       have b5 : decide (a1 < (a0.size : Int)) = true := decide_eq_true c9; clear c9
       by_cases c10 : 0 ≤ a1
       ·
        rw [if_pos c10] at H
        replace c10 := decide_eq_true c10
        by_cases c11 : a1 < (a0.size : Int)
        ·
         rw [if_pos c11] at H
         replace c11 := decide_eq_true c11
         by_cases c13 : (bt a0 a1) < 48
         ·
          rw [if_pos c13] at H
          have b2 : decide ((bt a0 a1) < 48) = true := decide_eq_true c13; clear c13
          simp only [Option.some.injEq, Prod.mk.injEq] at H
          obtain ⟨rfl, rfl⟩ := H; have p12 : 0 ≤ (a1 : Int) := of_decide_eq_true (by assumption); have q12 : a1 < (a0.size : Int) := of_decide_eq_true (by assumption); have b3 := bt_at a0 a1; replace p12 := eq_true p12; replace q12 := eq_true q12
          go_wp2
          go_ret2
          exact ⟨by first | rfl | (simp; done) | (simp [*]; done), by repeat (first | exact Drawn0.refl _ | apply Drawn0.step)⟩
         ·
          rw [if_neg c13] at H
          have b2 : decide ((bt a0 a1) < 48) = false := decide_eq_false c13; clear c13
          by_cases c15 : (bt a0 a1) > 57
          ·
           rw [if_pos c15] at H
           have b4 : decide (57 < (bt a0 a1)) = true := decide_eq_true c15; clear c15
           simp only [Option.some.injEq, Prod.mk.injEq] at H
           obtain ⟨rfl, rfl⟩ := H; have p12 : 0 ≤ (a1 : Int) := of_decide_eq_true (by assumption); have q12 : a1 < (a0.size : Int) := of_decide_eq_true (by assumption); have b3 := bt_at a0 a1; replace p12 := eq_true p12; replace q12 := eq_true q12; have p14 : 0 ≤ (a1 : Int) := of_decide_eq_true (by assumption); have q14 : a1 < (a0.size : Int) := of_decide_eq_true (by assumption); have b6 := bt_at a0 a1; replace p14 := eq_true p14; replace q14 := eq_true q14
           go_wp2
           go_ret2
           exact ⟨by first | rfl | (simp; done) | (simp [*]; done), by repeat (first | exact Drawn0.refl _ | apply Drawn0.step)⟩
          ·
           rw [if_neg c15] at H
           have b4 : decide (57 < (bt a0 a1)) = false := decide_eq_false c15; clear c15; have H' := Aside0.mk H; clear H; have p12 : 0 ≤ (a1 : Int) := of_decide_eq_true (by assumption); have q12 : a1 < (a0.size : Int) := of_decide_eq_true (by assumption); have b3 := bt_at a0 a1; replace p12 := eq_true p12; replace q12 := eq_true q12; have p14 : 0 ≤ (a1 : Int) := of_decide_eq_true (by assumption); have q14 : a1 < (a0.size : Int) := of_decide_eq_true (by assumption); have b6 := bt_at a0 a1; replace p14 := eq_true p14; replace q14 := eq_true q14; have p16 : 0 ≤ (a1 : Int) := of_decide_eq_true (by assumption); have q16 : a1 < (a0.size : Int) := of_decide_eq_true (by assumption); have b7 := bt_at a0 a1; replace p16 := eq_true p16; replace q16 := eq_true q16
           go_wp2
           go_roundg k2
           case measure => have := HJ1.out; have := HK2.out; omega
           case rel => exact ⟨(wrap64 ((wrap64 (10 * a4)) + (((bt a0 a1) - 48) % 256))), (wrap64 (a1 + 1)), (by first | rfl | (simp; done) | (simp [*]; done)), (by first | rfl | (simp; done) | (simp [*]; done)), H', ⟨by have := HJ1.out; have := HK2.out; omega⟩, by repeat (first | exact Drawn0.refl _ | apply Drawn0.step)⟩
        ·
         rw [if_neg c11] at H
         exact absurd H (by simp)
       ·
        rw [if_neg c10] at H
        exact absurd H (by simp)
      ·
       rw [if_neg c9] at H
       have b5 : decide (a1 < (a0.size : Int)) = false := decide_eq_false c9; clear c9
       simp only [Option.some.injEq, Prod.mk.injEq] at H
       obtain ⟨rfl, rfl⟩ := H
       go_wp2
       go_ret2
       exact ⟨by first | rfl | (simp; done) | (simp [*]; done), by repeat (first | exact Drawn0.refl _ | apply Drawn0.step)⟩
end
section
/-- A state of type 89 at block g of W; what its slices lead to came in by w0. -/
def IsS89 (w0 W : World) (g : Nat) (f0 : List Int) (f1 : Int) : Prop := ∃ A0 c0, W.heap[g]? = some (.cells #[.slice A0 f0.length c0, .int .i64 f1] 89 (0, 0)) ∧ w0.heap.size ≤ g ∧ Kd.C (Kd.int .u8) w0 A0 f0.length f0
theorem IsS89.grown {w0 W : World} {g : Nat} {f0 : List Int} {f1 : Int} {W1 : World} {row : Option Nat} (h : IsS89 w0 W g f0 f1) (hw : W.grownBy W1 row) (hne : some g ≠ row) : IsS89 w0 W1 g f0 f1 := by
  obtain ⟨A0, c0, hb, hg, hr0⟩ := h
  exact ⟨A0, c0, blk_grown hb hw hne, hg, hr0⟩
theorem IsS89.fresh {w0 W : World} {g : Nat} {f0 : List Int} {f1 : Int} (h : IsS89 w0 W g f0 f1) : ∀ k, W.heap.size ≤ k → k ≠ g := by
  obtain ⟨A0, c0, hb, hg, hr0⟩ := h
  exact Kd.freshB hb
theorem IsS89.kept {w0 W : World} {g : Nat} {f0 : List Int} {f1 : Int} {W1 : World} {S : Nat → Prop} (h : IsS89 w0 W g f0 f1) (hk : Kept W W1 S) (hne : ¬ S g) : IsS89 w0 W1 g f0 f1 := by
  obtain ⟨A0, c0, hb, hg, hr0⟩ := h
  exact ⟨A0, c0, blk_kept hb hk hne, hg, hr0⟩
theorem IsS89.below {w0 W : World} {g : Nat} {f0 : List Int} {f1 : Int} {W1 : World} (h : IsS89 w0 W g f0 f1) (hw : Below W.heap.size W W1) : IsS89 w0 W1 g f0 f1 := h.grown (grown_of_below hw none) (by simp)
theorem IsS89.alloc {w0 W : World} {g : Nat} {f0 : List Int} {f1 : Int} (h : IsS89 w0 W g f0 f1) (o : Obj) : IsS89 w0 (W.alloc o) g f0 f1 := h.below (below_alloc (Below.refl _ _) o)
theorem IsS89.drewN {w0 W : World} {g : Nat} {f0 : List Int} {f1 : Int} (h : IsS89 w0 W g f0 f1) (m : Nat) : IsS89 w0 (W.drewN m) g f0 f1 := h
theorem IsS89.drew {w0 W : World} {g : Nat} {f0 : List Int} {f1 : Int} (h : IsS89 w0 W g f0 f1) : IsS89 w0 W.drew g f0 f1 := h
theorem IsS89.at_ {w0 W : World} {g : Nat} {f0 : List Int} {f1 : Int} {w' : World} {m : Nat} (hq : W.drewN m = w') (h : IsS89 w0 W g f0 f1) : IsS89 w0 w' g f0 f1 := by subst hq; exact IsS89.drewN h m
theorem IsS89.apart {w0 W : World} {g : Nat} {f0 : List Int} {f1 : Int} {α : Type} {d : Kd α} {e : Nat} {base : Nat} {ok : Nat → Prop} {v : Value} {xs : List α} (h : IsS89 w0 W g f0 f1) (ho : d.R e W base ok v xs) (ht : ∀ q, q ∈ e :: d.E → q ≠ 89) : d.R e W base (fun k => ok k ∧ k ≠ g) v xs := by
  obtain ⟨A0, c0, hb, hg, hr0⟩ := h
  exact Kd.R_types ho hb ht
theorem IsS89.own_ne {w0 W : World} {g : Nat} {f0 : List Int} {f1 : Int} {α : Type} {d : Kd α} {e : Nat} {base : Nat} {ok : Nat → Prop} {v : Value} {xs : List α} (h : IsS89 w0 W g f0 f1) (ho : d.R e W base ok v xs) (ht : e ≠ 89) : some g ≠ v.ownBlock := by
  obtain ⟨A0, c0, hb, hg, hr0⟩ := h
  exact Kd.R_ne ho hb ht
theorem IsS89.lt {w0 W : World} {g : Nat} {f0 : List Int} {f1 : Int} (h : IsS89 w0 W g f0 f1) : g < W.heap.size := by
  obtain ⟨A0, c0, hb, hg, hr0⟩ := h
  exact blk_lt hb
theorem IsS89.ge {w0 W : World} {g : Nat} {f0 : List Int} {f1 : Int} (h : IsS89 w0 W g f0 f1) : w0.heap.size ≤ g := by
  obtain ⟨A0, c0, hb, hg, hr0⟩ := h
  exact hg
theorem IsS89.ne_blk {w0 W : World} {g : Nat} {f0 : List Int} {f1 : Int} {a : Nat} {cs : Array Value} {t : TypeId} {fr : Nat × Nat} (h : IsS89 w0 W g f0 f1) (hb2 : W.heap[a]? = some (.cells cs t fr)) (ht : t ≠ 89) : g ≠ a := by
  obtain ⟨A0, c0, hb, hg, hr0⟩ := h
  rintro rfl
  rw [hb] at hb2
  injection hb2 with hb2
  injection hb2 with _ ht2
  exact ht ht2.symm
theorem IsS89.far {w0 W : World} {g : Nat} {f0 : List Int} {f1 : Int} {p : Addr} (h : IsS89 w0 W g f0 f1) (hne : g ≠ p.block) (u : Value) : IsS89 w0 (W.setCell p u) g f0 f1 := by
  obtain ⟨A0, c0, hb, hg, hr0⟩ := h
  exact ⟨A0, c0, blk_far hb hne u, hg, hr0⟩
theorem cellS89_0 {W : World} {g : Nat} {A0 : Option Addr} {c0 : Nat} {f0 : List Int} {f1 : Int} (h : W.heap[g]? = some (.cells #[.slice A0 f0.length c0, .int .i64 f1] 89 (0, 0))) : W.cell? ⟨g, 0, none⟩ = some (.slice A0 f0.length c0) := (blk_cell h 0).trans rfl
theorem cellS89_1 {W : World} {g : Nat} {A0 : Option Addr} {c0 : Nat} {f0 : List Int} {f1 : Int} (h : W.heap[g]? = some (.cells #[.slice A0 f0.length c0, .int .i64 f1] 89 (0, 0))) : W.cell? ⟨g, 1, none⟩ = some (.int .i64 f1) := (blk_cell h 1).trans rfl
theorem IsS89.set_1 {w0 W : World} {g : Nat} {f0 : List Int} {f1 : Int} (h : IsS89 w0 W g f0 f1) (x : Int) : IsS89 w0 (W.setCell ⟨g, 1, none⟩ (.int .i64 x)) g f0 x := by
  obtain ⟨A0, c0, hb, hg, hr0⟩ := h
  exact ⟨A0, c0, by simpa using blk_set hb 1 (.int .i64 x), hg, hr0⟩
theorem IsS89.new (w0 W : World) (A0 : Option Addr) (c0 : Nat) (f0 : List Int) (f1 : Int) (hB : Below w0.heap.size w0 W) (hr0 : Kd.C (Kd.int .u8) w0 A0 f0.length f0) : IsS89 w0 (W.alloc (.cells #[.slice A0 f0.length c0, .int .i64 f1] 89)) W.heap.size f0 f1 := ⟨A0, c0, by simpa using heap_alloc_new W _, hB.size, hr0⟩

def spec_l20Rd_pick.j0 : Nat → Int → Bool → List Int → Int → Option (Int × Int)
 | 0, _, _, _, _ => none
 | k + 1, x1, x24, x1000, x1001 => if x24 = true then (some (0, x1001)) else (if (wrap64 (x1001 - 1)) < (x1000.length : Int) then (if 0 ≤ (wrap64 (x1001 - 1)) then (if x1 = 0 then (none) else (some (Int.tmod (wrap64 (rd x1000 (wrap64 (x1001 - 1)))) x1, x1001))) else (none)) else (if (x1000.length : Int) = 0 then (none) else (if 0 ≤ (Int.tmod (wrap64 (x1001 - 1)) (x1000.length : Int)) then (if (Int.tmod (wrap64 (x1001 - 1)) (x1000.length : Int)) < (x1000.length : Int) then (if 0 ≤ (Int.tmod (wrap64 ((wrap64 ((wrap64 (x1001 - 1)) * 7)) + 3)) (x1000.length : Int)) then (if (Int.tmod (wrap64 ((wrap64 ((wrap64 (x1001 - 1)) * 7)) + 3)) (x1000.length : Int)) < (x1000.length : Int) then (if x1 = 0 then (none) else (some (Int.tmod (Go.bits .xor .i64 (wrap64 ((wrap64 ((wrap64 ((wrap64 ((wrap64 (rd x1000 (Int.tmod (wrap64 (x1001 - 1)) (x1000.length : Int)))) * 131)) + (wrap64 ((wrap64 (rd x1000 (Int.tmod (wrap64 ((wrap64 ((wrap64 (x1001 - 1)) * 7)) + 3)) (x1000.length : Int)))) * 1117)))) + (wrap64 ((wrap64 (x1001 - 1)) * 29)))) + (wrap64 ((wrap64 (Int.tdiv (wrap64 (x1001 - 1)) (x1000.length : Int))) * 53)))) (wrap64 (Int.tdiv (wrap64 ((wrap64 ((wrap64 ((wrap64 ((wrap64 (rd x1000 (Int.tmod (wrap64 (x1001 - 1)) (x1000.length : Int)))) * 131)) + (wrap64 ((wrap64 (rd x1000 (Int.tmod (wrap64 ((wrap64 ((wrap64 (x1001 - 1)) * 7)) + 3)) (x1000.length : Int)))) * 1117)))) + (wrap64 ((wrap64 (x1001 - 1)) * 29)))) + (wrap64 ((wrap64 (Int.tdiv (wrap64 (x1001 - 1)) (x1000.length : Int))) * 53)))) 64))) x1, x1001))) else (none)) else (none)) else (none)) else (none))))
def spec_l20Rd_pick.f (k : Nat) (s0_0 : List Int) (s0_1 : Int) (a1 : Int) : Option (Int × Int) := if a1 < 1 then (spec_l20Rd_pick.j0 k a1 true s0_0 (wrap64 (s0_1 + 1))) else (spec_l20Rd_pick.j0 k a1 ((s0_0.length : Int) == 0) s0_0 (wrap64 (s0_1 + 1)))
set_option maxHeartbeats 8000000 in
set_option maxRecDepth 100000 in
theorem spec_l20Rd_pick.calls (k : Nat) (g : Nat) (s0_0 : List Int) (s0_1 : Int) (a1 : Int) (r1 : Int) (r2 : Int) (w0 w : World) (hI : IsS89 w0 w g s0_0 s0_1) (hB : Below w0.heap.size w0 w) (h : spec_l20Rd_pick.f k s0_0 s0_1 a1 = some (r1, r2)) :
  Calls Tryd.prog 37 #[.pointer (some ⟨g, 0, none⟩), .int .i64 a1] w fun e w' => e = .returned (.int .i64 r1) ∧ IsS89 w0 w' g s0_0 r2 ∧ Below w0.heap.size w0 w' ∧ KeepBut w w' g none := by
 have HI0 := Aside0.mk hI; have HK := Aside0.mk (KeepBut.refl w g none); have HL := Aside0.mk hB.size; clear hI; have HW0 := Aside0.mk hB.size; have HB := Aside0.mk hB; clear hB; have H : (if a1 < 1 then (spec_l20Rd_pick.j0 k a1 true s0_0 (wrap64 (s0_1 + 1))) else (spec_l20Rd_pick.j0 k a1 ((s0_0.length : Int) == 0) s0_0 (wrap64 (s0_1 + 1)))) = some (r1, r2) := h; clear h; have HC3 := Aside0.mk H; clear H; obtain ⟨d2, d3, HGz4, hgz4, HSz4_0⟩ := HI0.out; have b0 := cellS89_0 HGz4; have b1 := cellS89_1 HGz4; have b2 := blk_frozen HGz4 1; clear HGz4 hgz4
 go_enter Tryd.func37, Tryd.ntmps37
 go_upto_region 2 with (fail)
 repeat (go_quiet (fail); go_upto_region 2 with (fail))
 go_cut [24] (fun v24 wc => ∃ (kq : Nat) (a5 : Bool), v24 = .bool a5 ∧ Aside0 (spec_l20Rd_pick.j0 kq a1 a5 s0_0 (wrap64 (s0_1 + 1)) = some (r1, r2)) ∧ Aside0 (kq ≤ k) ∧ Aside0 (IsS89 w0 wc g s0_0 (wrap64 (s0_1 + 1))) ∧ Aside0 (KeepBut w wc g none) ∧ Aside0 (Below w0.heap.size w0 wc))
 case first =>
  have H := HC3.out; clear HC3
  by_cases c5 : a1 < 1
  ·
   rw [if_pos c5] at H
   have a9 : decide (a1 < 1) = true := decide_eq_true c5; clear c5
   (first | rw [a9] | (simp only [i64_w, i32_w]; rw [a9]) | skip)
   have H' := Aside0.mk H; clear H
   go_wp2
   repeat (go_quiet (fail); try go_wp2)
   go_meet
   case rel => exact ⟨_, (true), (by first | rfl | (simp; done) | (simp [*]; done)), H', ⟨by first | omega | exact Nat.le_refl _⟩, ⟨by repeat (with_reducible first | exact HI0.out | apply IsS89.alloc | apply IsS89.drewN | apply IsS89.drew | apply IsS89.set_1)⟩, ⟨by repeat (with_reducible first | exact HK.out | apply KeepBut.set_ | apply keep_drewN | apply keep_drew | apply keep_alloc)⟩, ⟨by repeat (with_reducible first | exact HB.out | apply below_alloc | apply pw_below_drewN | apply below_drew1 | refine below_set ?_ (IsS89.ge HI0.out))⟩⟩
  ·
   rw [if_neg c5] at H
   have a9 : decide (a1 < 1) = false := decide_eq_false c5; clear c5
   (first | rw [a9] | (simp only [i64_w, i32_w]; rw [a9]) | skip)
   have H' := Aside0.mk H; clear H; obtain ⟨d4, d5, HGz6, hgz6, HSz6_0⟩ := HI0.out; have b3 := cellS89_0 HGz6; have b4 := cellS89_1 HGz6; have b5 := blk_frozen HGz6 1; clear HGz6 hgz6
   go_wp2
   repeat (go_quiet (fail); try go_wp2)
   go_meet
   case rel => exact ⟨_, (((s0_0.length : Int) == 0)), (by first | rfl | (simp; done) | (simp [*]; done)), H', ⟨by first | omega | exact Nat.le_refl _⟩, ⟨by repeat (with_reducible first | exact HI0.out | apply IsS89.alloc | apply IsS89.drewN | apply IsS89.drew | apply IsS89.set_1)⟩, ⟨by repeat (with_reducible first | exact HK.out | apply KeepBut.set_ | apply keep_drewN | apply keep_drew | apply keep_alloc)⟩, ⟨by repeat (with_reducible first | exact HB.out | apply below_alloc | apply pw_below_drewN | apply below_drew1 | refine below_set ?_ (IsS89.ge HI0.out))⟩⟩
 case rest =>
  clear HC3; (try clear p2); (try clear c3); (try clear c5); (try clear a9); (try clear p6); (try clear b0); (try clear b1); (try clear b3); (try clear b4); (try clear b2); (try clear b5); obtain ⟨kq, a5, rfl, HA, HJ2, HI0, HK, HB⟩ := hcut
  cases kq with
  | zero => exact absurd HA.out (by simp [spec_l20Rd_pick.j0])
  | succ kj2 =>
   have H := HA.out; clear HA
   simp only [spec_l20Rd_pick.j0] at H
   by_cases c7 : a5 = true
   ·
    subst c7
    rw [if_pos rfl] at H
    simp only [Option.some.injEq, Prod.mk.injEq] at H
    obtain ⟨rfl, rfl⟩ := H
    go_wp2
    repeat (go_quiet (fail); try go_wp2)
    go_ret
    exact ⟨by first | rfl | (simp [*, errW_none, errW_some] <;> rfl), by repeat (with_reducible first | exact HI0.out | apply IsS89.alloc | apply IsS89.drewN | apply IsS89.drew | apply IsS89.set_1), by repeat (with_reducible first | exact HB.out | apply below_alloc | apply pw_below_drewN | apply below_drew1 | refine below_set ?_ (IsS89.ge HI0.out)), by repeat (with_reducible first | exact HK.out | apply KeepBut.set_ | apply keep_drewN | apply keep_drew | apply keep_alloc)⟩
   ·
    replace c7 := Bool.eq_false_iff.mpr c7
    subst c7
    rw [if_neg (show ¬ (false = true) by decide)] at H
    by_cases c8 : (wrap64 ((wrap64 (s0_1 + 1)) - 1)) < (s0_0.length : Int)
    ·
     rw [if_pos c8] at H
     have b6 : decide ((wrap64 ((wrap64 (s0_1 + 1)) - 1)) < (s0_0.length : Int)) = true := decide_eq_true c8; clear c8; obtain ⟨ji9, hji9⟩ : ∃ j_ : Int, (wrap64 ((wrap64 (s0_1 + 1)) - 1)) = j_ := ⟨_, rfl⟩
     replace H : (if 0 ≤ (ji9) then (if a1 = 0 then (none) else (some (Int.tmod (wrap64 (rd s0_0 (ji9))) a1, (wrap64 (s0_1 + 1))))) else (none)) = some (r1, r2) := by first | (rw [hji9] at H; exact H) | (simp only [hji9] at H ⊢; exact H)
     (try rw [hji9] at b6)
     have hji9w : (IntKind.i64.wrap ((wrap64 (s0_1 + 1)) - 1)) = ji9 := (i64_w _).trans hji9
     by_cases c10 : 0 ≤ (ji9)
     ·
      rw [if_pos c10] at H
      replace c10 := decide_eq_true c10
      by_cases c11 : a1 = 0
      ·
       rw [if_pos c11] at H
       exact absurd H (by simp)
      ·
       rw [if_neg c11] at H
       have d9 := beq_eq_false_iff_ne.mpr c11; have e0 := bne_iff_ne.mpr c11
       simp only [Option.some.injEq, Prod.mk.injEq] at H
       obtain ⟨rfl, rfl⟩ := H; obtain ⟨b7, b8, HGz12, hgz12, HSz12_0⟩ := HI0.out; have b9 := cellS89_0 HGz12; have c1 := cellS89_1 HGz12; have c2 := blk_frozen HGz12 1; clear HGz12 hgz12; have p101 : 0 ≤ ((ji9) : Int) := of_decide_eq_true (by assumption); have q101 : (ji9) < (s0_0.length : Int) := of_decide_eq_true (by assumption); obtain ⟨ad101, d6, a6⟩ := Kd.at_int HSz12_0 (ji9) p101 q101
       cases d6
       replace a6 := pw_cell_below HB.out a6; replace p101 := eq_true p101; replace q101 := eq_true q101
       go_wp2
       repeat (go_quiet (fail); try go_wp2)
       go_ret
       exact ⟨by first | rfl | (simp [errW_none, errW_some] <;> rfl) | (simp only [← hji9]; first | rfl | (simp [errW_none, errW_some] <;> rfl)) | (simp [*, errW_none, errW_some] <;> rfl), by repeat (with_reducible first | exact HI0.out | apply IsS89.alloc | apply IsS89.drewN | apply IsS89.drew | apply IsS89.set_1), by repeat (with_reducible first | exact HB.out | apply below_alloc | apply pw_below_drewN | apply below_drew1 | refine below_set ?_ (IsS89.ge HI0.out)), by repeat (with_reducible first | exact HK.out | apply KeepBut.set_ | apply keep_drewN | apply keep_drew | apply keep_alloc)⟩
     ·
      rw [if_neg c10] at H
      exact absurd H (by simp)
    ·
     rw [if_neg c8] at H
     have b6 : decide ((wrap64 ((wrap64 (s0_1 + 1)) - 1)) < (s0_0.length : Int)) = false := decide_eq_false c8; clear c8
     by_cases c13 : (s0_0.length : Int) = 0
     ·
      rw [if_pos c13] at H
      exact absurd H (by simp)
     ·
      rw [if_neg c13] at H
      have e1 := beq_eq_false_iff_ne.mpr c13; have e2 := bne_iff_ne.mpr c13; have e3 : ¬ (s0_0 = []) := fun h_ => c13 (by rw [h_]; rfl); obtain ⟨ji14, hji14⟩ : ∃ j_ : Int, (Int.tmod (wrap64 ((wrap64 (s0_1 + 1)) - 1)) (s0_0.length : Int)) = j_ := ⟨_, rfl⟩
      replace H : (if 0 ≤ (ji14) then (if (ji14) < (s0_0.length : Int) then (if 0 ≤ (Int.tmod (wrap64 ((wrap64 ((wrap64 ((wrap64 (s0_1 + 1)) - 1)) * 7)) + 3)) (s0_0.length : Int)) then (if (Int.tmod (wrap64 ((wrap64 ((wrap64 ((wrap64 (s0_1 + 1)) - 1)) * 7)) + 3)) (s0_0.length : Int)) < (s0_0.length : Int) then (if a1 = 0 then (none) else (some (Int.tmod (Go.bits .xor .i64 (wrap64 ((wrap64 ((wrap64 ((wrap64 ((wrap64 (rd s0_0 (ji14))) * 131)) + (wrap64 ((wrap64 (rd s0_0 (Int.tmod (wrap64 ((wrap64 ((wrap64 ((wrap64 (s0_1 + 1)) - 1)) * 7)) + 3)) (s0_0.length : Int)))) * 1117)))) + (wrap64 ((wrap64 ((wrap64 (s0_1 + 1)) - 1)) * 29)))) + (wrap64 ((wrap64 (Int.tdiv (wrap64 ((wrap64 (s0_1 + 1)) - 1)) (s0_0.length : Int))) * 53)))) (wrap64 (Int.tdiv (wrap64 ((wrap64 ((wrap64 ((wrap64 ((wrap64 (rd s0_0 (ji14))) * 131)) + (wrap64 ((wrap64 (rd s0_0 (Int.tmod (wrap64 ((wrap64 ((wrap64 ((wrap64 (s0_1 + 1)) - 1)) * 7)) + 3)) (s0_0.length : Int)))) * 1117)))) + (wrap64 ((wrap64 ((wrap64 (s0_1 + 1)) - 1)) * 29)))) + (wrap64 ((wrap64 (Int.tdiv (wrap64 ((wrap64 (s0_1 + 1)) - 1)) (s0_0.length : Int))) * 53)))) 64))) a1, (wrap64 (s0_1 + 1))))) else (none)) else (none)) else (none)) else (none)) = some (r1, r2) := by first | (rw [hji14] at H; exact H) | (simp only [hji14] at H ⊢; exact H)
      by_cases c15 : 0 ≤ (ji14)
      ·
       rw [if_pos c15] at H
       replace c15 := decide_eq_true c15
       by_cases c16 : (ji14) < (s0_0.length : Int)
       ·
        rw [if_pos c16] at H
        replace c16 := decide_eq_true c16; obtain ⟨ji17, hji17⟩ : ∃ j_ : Int, (Int.tmod (wrap64 ((wrap64 ((wrap64 ((wrap64 (s0_1 + 1)) - 1)) * 7)) + 3)) (s0_0.length : Int)) = j_ := ⟨_, rfl⟩
        replace H : (if 0 ≤ (ji17) then (if (ji17) < (s0_0.length : Int) then (if a1 = 0 then (none) else (some (Int.tmod (Go.bits .xor .i64 (wrap64 ((wrap64 ((wrap64 ((wrap64 ((wrap64 (rd s0_0 (ji14))) * 131)) + (wrap64 ((wrap64 (rd s0_0 (ji17))) * 1117)))) + (wrap64 ((wrap64 ((wrap64 (s0_1 + 1)) - 1)) * 29)))) + (wrap64 ((wrap64 (Int.tdiv (wrap64 ((wrap64 (s0_1 + 1)) - 1)) (s0_0.length : Int))) * 53)))) (wrap64 (Int.tdiv (wrap64 ((wrap64 ((wrap64 ((wrap64 ((wrap64 (rd s0_0 (ji14))) * 131)) + (wrap64 ((wrap64 (rd s0_0 (ji17))) * 1117)))) + (wrap64 ((wrap64 ((wrap64 (s0_1 + 1)) - 1)) * 29)))) + (wrap64 ((wrap64 (Int.tdiv (wrap64 ((wrap64 (s0_1 + 1)) - 1)) (s0_0.length : Int))) * 53)))) 64))) a1, (wrap64 (s0_1 + 1))))) else (none)) else (none)) = some (r1, r2) := by first | (rw [hji17] at H; exact H) | (simp only [hji17] at H ⊢; exact H)
        by_cases c18 : 0 ≤ (ji17)
        ·
         rw [if_pos c18] at H
         replace c18 := decide_eq_true c18
         by_cases c19 : (ji17) < (s0_0.length : Int)
         ·
          rw [if_pos c19] at H
          replace c19 := decide_eq_true c19
          by_cases c20 : a1 = 0
          ·
           rw [if_pos c20] at H
           exact absurd H (by simp)
          ·
           rw [if_neg c20] at H
           have e4 := beq_eq_false_iff_ne.mpr c20; have e5 := bne_iff_ne.mpr c20
           simp only [Option.some.injEq, Prod.mk.injEq] at H
           obtain ⟨rfl, rfl⟩ := H; obtain ⟨c4, c6, HGz21, hgz21, HSz21_0⟩ := HI0.out; have c9 := cellS89_0 HGz21; have d0 := cellS89_1 HGz21; have d1 := blk_frozen HGz21 1; clear HGz21 hgz21; have p102 : 0 ≤ ((ji14) : Int) := of_decide_eq_true (by assumption); have q102 : (ji14) < (s0_0.length : Int) := of_decide_eq_true (by assumption); obtain ⟨ad102, d7, a7⟩ := Kd.at_int HSz21_0 (ji14) p102 q102
           cases d7
           replace a7 := pw_cell_below HB.out a7; replace p102 := eq_true p102; replace q102 := eq_true q102; have p103 : 0 ≤ ((ji17) : Int) := of_decide_eq_true (by assumption); have q103 : (ji17) < (s0_0.length : Int) := of_decide_eq_true (by assumption); obtain ⟨ad103, d8, a8⟩ := Kd.at_int HSz21_0 (ji17) p103 q103; obtain rfl : ad102 = ad103 := (by injection d8); replace a8 := pw_cell_below HB.out a8; replace p103 := eq_true p103; replace q103 := eq_true q103
           go_wp2
           repeat (go_quiet (fail); try go_wp2)
           go_ret
           exact ⟨by first | rfl | (simp [errW_none, errW_some] <;> rfl) | (simp only [← hji14, ← hji17]; first | rfl | (simp [errW_none, errW_some] <;> rfl)) | (simp [*, errW_none, errW_some] <;> rfl), by repeat (with_reducible first | exact HI0.out | apply IsS89.alloc | apply IsS89.drewN | apply IsS89.drew | apply IsS89.set_1), by repeat (with_reducible first | exact HB.out | apply below_alloc | apply pw_below_drewN | apply below_drew1 | refine below_set ?_ (IsS89.ge HI0.out)), by repeat (with_reducible first | exact HK.out | apply KeepBut.set_ | apply keep_drewN | apply keep_drew | apply keep_alloc)⟩
         ·
          rw [if_neg c19] at H
          exact absurd H (by simp)
        ·
         rw [if_neg c18] at H
         exact absurd H (by simp)
       ·
        rw [if_neg c16] at H
        exact absurd H (by simp)
      ·
       rw [if_neg c15] at H
       exact absurd H (by simp)
end
section
def spec_l20Open.f (l0 : List Int) : Option (List Int × Int) := if (l0.length : Int) > 2000 then (if 2000 ≤ (l0.length : Int) then (some (l0.take 2000, 0)) else (none)) else (some (l0, 0))
set_option maxHeartbeats 8000000 in
set_option maxRecDepth 100000 in
theorem spec_l20Open.calls (A0 : Option Addr) (c0 : Nat) (l0 : List Int) (r1 : List Int) (r2 : Int) (w0 w : World) (hB : Below w0.heap.size w0 w) (hr0 : Kd.C (Kd.int .u8) w0 A0 l0.length l0) (hc0 : l0.length ≤ c0) (h : spec_l20Open.f l0 = some (r1, r2)) :
    Calls Tryd.prog 36 #[.slice A0 l0.length c0] w fun e w' => ∃ g_ : Nat, e = .returned (.pointer (some ⟨g_, 0, none⟩)) ∧ IsS89 w0 w' g_ r1 r2 ∧ Below w0.heap.size w0 w' ∧ Below w.heap.size w w' := by
  have hu89 := Tryd.underlying89; have HR0 := Aside0.mk hr0; have HC0 := Aside0.mk hc0; clear hr0 hc0; have HBW := Aside0.mk (Below.refl w.heap.size w); have HW0 := Aside0.mk hB.size; have HB := Aside0.mk hB; clear hB; have H : (if (l0.length : Int) > 2000 then (if 2000 ≤ (l0.length : Int) then (some (l0.take 2000, 0)) else (none)) else (some (l0, 0))) = some (r1, r2) := h; clear h
  by_cases c2 : (l0.length : Int) > 2000
  · rw [if_pos c2] at H
    have c2b0 : decide (2000 < (l0.length : Int)) = true := decide_eq_true c2; have c2b1 : decide (2000 < l0.length) = true := decide_eq_true (by omega); clear c2
    by_cases c3 : 2000 ≤ (l0.length : Int)
    · rw [if_pos c3] at H
      have c3b0 := eq_true c3; replace c3 := decide_eq_true c3
      simp only [Option.some.injEq, Prod.mk.injEq] at H
      obtain ⟨rfl, rfl⟩ := H; obtain ⟨i04, hi04, _, hsz4, _⟩ := info_parts info5; obtain ⟨hcut4, hA4, hC4⟩ := print_take_of (P := Tryd.prog) (Value.int .u8) 0 28 5 .i64 Tryd.underlying28 hi04 hsz4 A0 c0 l0 2000 (by omega) (of_decide_eq_true (by assumption)) HC0.out; have HR101 := Aside0.mk (Kd.C_of_reads (h1 := fun _ => rfl) (hA4 _ (Kd.reads_of_C HR0.out))); have HC101 := Aside0.mk hC4; clear hA4 hC4 hi04 hsz4
      go_enter Tryd.func36, Tryd.ntmps36
      go_wp2_with (first | ((with_reducible refine gd_ 10 rfl ?_); refine bx_ 10 rfl #[.slice A0 (l0.take 2000).length c0, .int .i64 0] 89 ?_; intro gb102 hg w5 hbox hb; replace HB := Aside0.mk (below_step (upH HB.out) hb); have BK102 := Aside0.mk (hbox); have GW102 := Aside0.mk ((by rw [hg]; exact (below_size (upH HBW.out)) : w.heap.size ≤ gb102)); have GE102 := Aside0.mk ((Nat.le_trans HW0.out (by rw [hg]; exact (below_size (upH HBW.out)) : w.heap.size ≤ gb102) : w0.heap.size ≤ gb102)); replace HBW := Aside0.mk (below_step HBW.out hb); clear hb hbox hg))
      go_ret
      exact ⟨_, rfl, (show IsS89 w0 _ gb102 (l0.take 2000) 0 from ⟨_, _, by (with_reducible repeat (first | refine blk_drewN ?_ _ | refine blk_drew ?_ | refine blk_alloc ?_ _)); exact BK102.out, GE102.out, HR101.out⟩), by repeat (with_reducible first | exact HB.out | apply below_alloc | apply pw_below_drewN | apply below_drew1 | refine below_set ?_ (Aside0.out ‹_›)), by repeat (with_reducible first | exact HBW.out | apply below_alloc | apply pw_below_drewN | apply below_drew1 | refine below_set ?_ (Aside0.out ‹_›))⟩
    · rw [if_neg c3] at H
      exact absurd H (by simp)
  · rw [if_neg c2] at H
    have c2b0 : decide (2000 < (l0.length : Int)) = false := decide_eq_false c2; have c2b1 : decide (2000 < l0.length) = false := decide_eq_false (by omega); clear c2
    simp only [Option.some.injEq, Prod.mk.injEq] at H
    obtain ⟨rfl, rfl⟩ := H
    go_enter Tryd.func36, Tryd.ntmps36
    go_wp2_with (first | ((with_reducible refine gd_ 10 rfl ?_); refine bx_ 10 rfl #[.slice A0 l0.length c0, .int .i64 0] 89 ?_; intro gb103 hg w6 hbox hb; replace HB := Aside0.mk (below_step (upH HB.out) hb); have BK103 := Aside0.mk (hbox); have GW103 := Aside0.mk ((by rw [hg]; exact (below_size (upH HBW.out)) : w.heap.size ≤ gb103)); have GE103 := Aside0.mk ((Nat.le_trans HW0.out (by rw [hg]; exact (below_size (upH HBW.out)) : w.heap.size ≤ gb103) : w0.heap.size ≤ gb103)); replace HBW := Aside0.mk (below_step HBW.out hb); clear hb hbox hg))
    go_ret
    exact ⟨_, rfl, (show IsS89 w0 _ gb103 l0 0 from ⟨_, _, by (with_reducible repeat (first | refine blk_drewN ?_ _ | refine blk_drew ?_ | refine blk_alloc ?_ _)); exact BK103.out, GE103.out, HR0.out⟩), by repeat (with_reducible first | exact HB.out | apply below_alloc | apply pw_below_drewN | apply below_drew1 | refine below_set ?_ (Aside0.out ‹_›)), by repeat (with_reducible first | exact HBW.out | apply below_alloc | apply pw_below_drewN | apply below_drew1 | refine below_set ?_ (Aside0.out ‹_›))⟩
end
section
def spec_l20Rd_odd.f (k : Nat) (s0_0 : List Int) (s0_1 : Int) (a1 : Int) : Option (Bool × Int) := if a1 > 0 then ((spec_l20Rd_pick.f k s0_0 s0_1 a1).bind fun bt101 => (some ((bt101.1 == (wrap64 (a1 - 1))), bt101.2))) else (some (false, s0_1))
set_option maxHeartbeats 8000000 in
set_option maxRecDepth 100000 in
theorem spec_l20Rd_odd.calls (k : Nat) (g : Nat) (s0_0 : List Int) (s0_1 : Int) (a1 : Int) (r1 : Bool) (r2 : Int) (w0 w : World) (hI : IsS89 w0 w g s0_0 s0_1) (hB : Below w0.heap.size w0 w) (h : spec_l20Rd_odd.f k s0_0 s0_1 a1 = some (r1, r2)) :
    Calls Tryd.prog 67 #[.pointer (some ⟨g, 0, none⟩), .int .i64 a1] w fun e w' => e = .returned (.bool r1) ∧ IsS89 w0 w' g s0_0 r2 ∧ Below w0.heap.size w0 w' ∧ KeepBut w w' g none := by
  have HI0 := Aside0.mk hI; have HK := Aside0.mk (KeepBut.refl w g none); have HL := Aside0.mk hB.size; clear hI; have HW0 := Aside0.mk hB.size; have HB := Aside0.mk hB; clear hB; have H : (if a1 > 0 then ((spec_l20Rd_pick.f k s0_0 s0_1 a1).bind fun bt101 => (some ((bt101.1 == (wrap64 (a1 - 1))), bt101.2))) else (some (false, s0_1))) = some (r1, r2) := h; clear h
  by_cases c3 : a1 > 0
  · rw [if_pos c3] at H
    have c3b0 : decide (0 < a1) = true := decide_eq_true c3; clear c3; obtain ⟨⟨t101, t102⟩, A4, H⟩ := bindA H; (try dsimp only at H)
    simp only [Option.some.injEq, Prod.mk.injEq] at H
    obtain ⟨rfl, rfl⟩ := H
    go_enter Tryd.func67, Tryd.ntmps67
    go_wp2_with (first | (go_at_call 37; (with_reducible refine (spec_l20Rd_pick.calls k g s0_0 s0_1 a1 t101 t102 w0 _ ?side1 ?side2 A4.out).mono ?_); (case side1 => repeat (with_reducible first | exact HI0.out | apply IsS89.alloc | apply IsS89.drewN | apply IsS89.drew | apply IsS89.set_1)); (case side2 => repeat (with_reducible first | exact HB.out | apply below_alloc | apply pw_below_drewN | apply below_drew1 | refine below_set ?_ (IsS89.ge HI0.out))); rintro e w5 ⟨rfl, hi, hb, hk⟩; replace HK := Aside0.mk (KeepBut.trans (by repeat (with_reducible first | exact HK.out | apply KeepBut.set_ | apply keep_drewN | apply keep_drew | apply keep_alloc)) hk (.inl rfl)); replace HB := Aside0.mk (hb); replace HI0 := Aside0.mk (hi); (try clear hb hk hi)))
    go_ret
    exact ⟨by first | rfl | (simp [*, errW_none, errW_some] <;> rfl), by repeat (with_reducible first | exact HI0.out | apply IsS89.alloc | apply IsS89.drewN | apply IsS89.drew | apply IsS89.set_1), by repeat (with_reducible first | exact HB.out | apply below_alloc | apply pw_below_drewN | apply below_drew1 | refine below_set ?_ (IsS89.ge HI0.out)), by repeat (with_reducible first | exact HK.out | apply KeepBut.set_ | apply keep_drewN | apply keep_drew | apply keep_alloc)⟩
  · rw [if_neg c3] at H
    have c3b0 : decide (0 < a1) = false := decide_eq_false c3; clear c3
    simp only [Option.some.injEq, Prod.mk.injEq] at H
    obtain ⟨rfl, rfl⟩ := H
    go_enter Tryd.func67, Tryd.ntmps67
    go_wp2
    go_ret
    exact ⟨by first | rfl | (simp [*, errW_none, errW_some] <;> rfl), by repeat (with_reducible first | exact HI0.out | apply IsS89.alloc | apply IsS89.drewN | apply IsS89.drew | apply IsS89.set_1), by repeat (with_reducible first | exact HB.out | apply below_alloc | apply pw_below_drewN | apply below_drew1 | refine below_set ?_ (IsS89.ge HI0.out)), by repeat (with_reducible first | exact HK.out | apply KeepBut.set_ | apply keep_drewN | apply keep_drew | apply keep_alloc)⟩
end
section
open Go.Proofs.YtfafjpfigphchaaDoorW.PrintWords.Aside0 renaming mk → yaa
open Go.Proofs.YtfafjpfigphchaaDoor.X.IsS89 renaming far → yab, alloc → yah, drewN → yai, set_1 → yaj, drew → yam, ge → yas
open Go.Proofs.YtfafjpfigphchaaDoorW.PrintWords renaming below_set → yac, pw_below_drewN → yad, keep_far → yaf, keep_drewN → yak, keep_alloc → yal, below_alloc → yan, below_drew1 → yao, keep_drew → yaq, blk_put → yar
open Go.Proofs.YtfafjpfigphchaaDoorW.PrintWords.KeepBut renaming set_ → yae, blk → yag, trans → yap

def spec_l20Op.j0 : Nat → Int → List Int → Int → Int → Int → Int → Int → Int → Option (Int × Int × Int × Int × Int × Int)
 | 0, _, _, _, _, _, _, _, _ => none
 | k + 1, x1, x1000, x1001, x105000, x105001, x105002, x105003, x105004 => (spec_l20Rd_odd.f k x1000 x1001 x1).bind fun bt123 => (if bt123.1 = true then ((spec_l20Rd_pick.f k x1000 bt123.2 4).bind fun bt125 => (if bt125.1 = 0 then ((some (([0, 9] : List Int) : List Int)).bind fun y127 => ((spec_l20Rd_pick.f k x1000 bt125.2 2).bind fun bt130 => (if 0 ≤ bt130.1 then (if bt130.1 < (y127.length : Int) then (some (rd y127 bt130.1, x105001, x105002, x105003, x105004, bt130.2)) else (none)) else (none)))) else (if bt125.1 = 1 then ((some (([(-1), 256] : List Int) : List Int)).bind fun y133 => ((spec_l20Rd_pick.f k x1000 bt125.2 2).bind fun bt136 => (if 0 ≤ bt136.1 then (if bt136.1 < (y133.length : Int) then (some (x105000, rd y133 bt136.1, x105002, x105003, x105004, bt136.2)) else (none)) else (none)))) else (if bt125.1 = 2 then ((some (([(-1), 256] : List Int) : List Int)).bind fun y139 => ((spec_l20Rd_pick.f k x1000 bt125.2 2).bind fun bt142 => (if 0 ≤ bt142.1 then (if bt142.1 < (y139.length : Int) then (some (x105000, x105001, x105002, rd y139 bt142.1, x105004, bt142.2)) else (none)) else (none)))) else ((some (([1, 7] : List Int) : List Int)).bind fun y145 => ((spec_l20Rd_pick.f k x1000 bt125.2 2).bind fun bt148 => (if 0 ≤ bt148.1 then (if bt148.1 < (y145.length : Int) then (some (x105000, x105001, x105002, x105003, rd y145 bt148.1, bt148.2)) else (none)) else (none)))))))) else (some (x105000, x105001, x105002, x105003, x105004, bt123.2)))
def spec_l20Op.f (k : Nat) (s0_0 : List Int) (s0_1 : Int) (a1 : Int) : Option (Int × Int × Int × Int × Int × Int) := (spec_l20Rd_pick.f k s0_0 s0_1 8).bind fun bt102 => (if (wrap64 (1 + bt102.1)) = 1 then ((spec_l20Rd_pick.f k s0_0 bt102.2 3).bind fun bt105 => ((spec_l20Rd_pick.f k s0_0 bt105.2 3).bind fun bt107 => ((spec_l20Rd_pick.f k s0_0 bt107.2 4).bind fun bt109 => ((spec_l20Rd_pick.f k s0_0 bt109.2 4).bind fun bt111 => (spec_l20Op.j0 k a1 s0_0 bt111.2 1 bt105.1 bt107.1 (wrap64 (1 + bt109.1)) (wrap64 (1 + bt111.1))))))) else (if (wrap64 (1 + bt102.1)) = 7 then ((spec_l20Rd_pick.f k s0_0 bt102.2 6).bind fun bt113 => ((spec_l20Rd_pick.f k s0_0 bt113.2 6).bind fun bt115 => (spec_l20Op.j0 k a1 s0_0 bt115.2 7 (wrap64 (1 + bt113.1)) (wrap64 (1 + bt115.1)) 0 0))) else (if (wrap64 (1 + bt102.1)) = 8 then ((spec_l20Rd_pick.f k s0_0 bt102.2 256).bind fun bt117 => ((spec_l20Rd_pick.f k s0_0 bt117.2 256).bind fun bt119 => ((spec_l20Rd_pick.f k s0_0 bt119.2 256).bind fun bt121 => (spec_l20Op.j0 k a1 s0_0 bt121.2 8 bt117.1 bt119.1 bt121.1 0)))) else (spec_l20Op.j0 k a1 s0_0 bt102.2 (wrap64 (1 + bt102.1)) 0 0 0 0))))
set_option maxHeartbeats 8000000 in
set_option maxRecDepth 100000 in
theorem spec_l20Op.calls (k : Nat) (g : Nat) (s0_0 : List Int) (s0_1 : Int) (a1 : Int) (r1 : Int) (r2 : Int) (r3 : Int) (r4 : Int) (r5 : Int) (r6 : Int) (w0 w : World) (hI : IsS89 w0 w g s0_0 s0_1) (hB : Below w0.heap.size w0 w) (h : spec_l20Op.f k s0_0 s0_1 a1 = some (r1, r2, r3, r4, r5, r6)) :
  Calls Tryd.prog 35 #[.pointer (some ⟨g, 0, none⟩), .int .i64 a1] w fun e w' => e = .returned (.agg #[.int .i64 r1, .int .i64 r2, .int .i64 r3, .int .i64 r4, .int .i64 r5]) ∧ IsS89 w0 w' g s0_0 r6 ∧ Below w0.heap.size w0 w' ∧ KeepBut w w' g none := by
 have hu23 := Tryd.underlying23; have HI0 := yaa hI; have HK := yaa (KeepBut.refl w g none); have HL := yaa hB.size; clear hI; have HW0 := yaa hB.size; have HB := yaa hB; clear hB; have H : ((spec_l20Rd_pick.f k s0_0 s0_1 8).bind fun c7 => (if (wrap64 (1 + c7.1)) = 1 then ((spec_l20Rd_pick.f k s0_0 c7.2 3).bind fun j9 => ((spec_l20Rd_pick.f k s0_0 j9.2 3).bind fun k0 => ((spec_l20Rd_pick.f k s0_0 k0.2 4).bind fun k1 => ((spec_l20Rd_pick.f k s0_0 k1.2 4).bind fun k2 => (spec_l20Op.j0 k a1 s0_0 k2.2 1 j9.1 k0.1 (wrap64 (1 + k1.1)) (wrap64 (1 + k2.1))))))) else (if (wrap64 (1 + c7.1)) = 7 then ((spec_l20Rd_pick.f k s0_0 c7.2 6).bind fun k3 => ((spec_l20Rd_pick.f k s0_0 k3.2 6).bind fun k4 => (spec_l20Op.j0 k a1 s0_0 k4.2 7 (wrap64 (1 + k3.1)) (wrap64 (1 + k4.1)) 0 0))) else (if (wrap64 (1 + c7.1)) = 8 then ((spec_l20Rd_pick.f k s0_0 c7.2 256).bind fun k5 => ((spec_l20Rd_pick.f k s0_0 k5.2 256).bind fun k6 => ((spec_l20Rd_pick.f k s0_0 k6.2 256).bind fun k7 => (spec_l20Op.j0 k a1 s0_0 k7.2 8 k5.1 k6.1 k7.1 0)))) else (spec_l20Op.j0 k a1 s0_0 c7.2 (wrap64 (1 + c7.1)) 0 0 0 0))))) = some (r1, r2, r3, r4, r5, r6) := h; clear h; obtain ⟨⟨b8, e6⟩, A3, H⟩ := bindA H; (try dsimp only at H); have HC4 := yaa H; clear H
 go_enter Tryd.func35, Tryd.ntmps35
 go_upto_block 0 with (first | ((with_reducible refine gd_ 4 rfl ?_); refine bx_ 4 rfl #[.int .i64 0, .int .i64 0, .int .i64 0, .int .i64 0, .int .i64 0] 23 ?_; intro b9 hg w5 hbox hb; replace HB := yaa (below_step (by repeat (with_reducible first | exact HB.out | apply yan | apply yad | apply yao | refine yac ?_ (yas HI0.out))) hb); have a4 := yaa (hbox); have b3 := yaa ((by rw [hg]; exact (keep_size (w := w) (g := g) (row := none) (by repeat (with_reducible first | exact HK.out | apply yae | apply yak | apply yaq | apply yal))) : w.heap.size ≤ b9)); have B8 := yaa ((Nat.le_trans HW0.out (by rw [hg]; exact (keep_size (w := w) (g := g) (row := none) (by repeat (with_reducible first | exact HK.out | apply yae | apply yak | apply yaq | apply yal))) : w.heap.size ≤ b9) : w0.heap.size ≤ b9)); replace HK := yaa (yap (by repeat (with_reducible first | exact HK.out | apply yae | apply yak | apply yaq | apply yal)) (KeepBut.of_below hb g none) (.inl rfl)); have a5 := yaa ((by rw [hg]; exact Nat.ne_of_lt (IsS89.lt (show IsS89 w0 _ g s0_0 s0_1 from by repeat (with_reducible first | exact HI0.out | apply yah | apply yai | apply yam | apply yaj))) : g ≠ b9)); replace HI0 := yaa (IsS89.below (by repeat (with_reducible first | exact HI0.out | apply yah | apply yai | apply yam | apply yaj)) hb); have b2 := yaa a5.out.symm; clear hb hbox hg) | ((with_reducible refine gc_ 37 rfl ?_); refine gl_ (some 7) rfl Tryd.func37 #[.pointer (some ⟨g, 0, none⟩), .int .i64 8] ?_; (with_reducible refine (spec_l20Rd_pick.calls k g s0_0 s0_1 8 b8 e6 w0 _ ?side1 ?side2 A3.out).mono ?_); (case side1 => repeat (with_reducible first | exact HI0.out | apply yah | apply yai | apply yam | apply yaj | refine yab ?_ a5.out _)); (case side2 => repeat (with_reducible first | exact HB.out | apply yan | apply yad | apply yao | refine yac ?_ (Aside0.out ‹_›) | refine yac ?_ (yas HI0.out))); rintro e w6 ⟨rfl, hi, hb, hk⟩; refine ⟨_, rfl, ?_⟩; replace a4 := yaa (yag hk (upB a4.out) b2.out (by simp)); replace HK := yaa (yap (by repeat (with_reducible first | exact HK.out | apply yae | apply yak | apply yaq | apply yal | refine yaf ?_ b3.out _)) hk (.inl rfl)); replace HB := yaa (hb); replace HI0 := yaa (hi); (try clear hb hk hi)) | ((with_reducible refine gd_ 5 rfl ?_); refine bx_ 5 rfl #[.int .i64 0, .int .i64 0, .int .i64 0, .int .i64 0, .int .i64 0] 23 ?_; intro c5 hg w7 hbox hb; replace HB := yaa (below_step (by repeat (with_reducible first | exact HB.out | apply yan | apply yad | apply yao | refine yac ?_ (Aside0.out ‹_›) | refine yac ?_ (yas HI0.out))) hb); have a6 := yaa (hbox); have b4 := yaa ((by rw [hg]; exact (keep_size (w := w) (g := g) (row := none) (by repeat (with_reducible first | exact HK.out | apply yae | apply yak | apply yaq | apply yal | refine yaf ?_ b3.out _))) : w.heap.size ≤ c5)); have B9 := yaa ((Nat.le_trans HW0.out (by rw [hg]; exact (keep_size (w := w) (g := g) (row := none) (by repeat (with_reducible first | exact HK.out | apply yae | apply yak | apply yaq | apply yal | refine yaf ?_ b3.out _))) : w.heap.size ≤ c5) : w0.heap.size ≤ c5)); replace HK := yaa (yap (by repeat (with_reducible first | exact HK.out | apply yae | apply yak | apply yaq | apply yal | refine yaf ?_ b3.out _)) (KeepBut.of_below hb g none) (.inl rfl)); have b1 := yaa ((by rw [hg]; exact Nat.ne_of_lt (blk_lt (upB a4.out)) : b9 ≠ c5)); replace a4 := yaa (blk_below (upB a4.out) hb); have b7 := yaa b1.out.symm; have a3 := yaa ((by rw [hg]; exact Nat.ne_of_lt (IsS89.lt (show IsS89 w0 _ g s0_0 e6 from by repeat (with_reducible first | exact HI0.out | apply yah | apply yai | apply yam | apply yaj | refine yab ?_ a5.out _))) : g ≠ c5)); replace HI0 := yaa (IsS89.below (by repeat (with_reducible first | exact HI0.out | apply yah | apply yai | apply yam | apply yaj | refine yab ?_ a5.out _)) hb); have b0 := yaa a3.out.symm; clear hb hbox hg; have F4 := b7.out; have F5 := b1.out; have F6 := b0.out; have F7 := a3.out; obtain ⟨f4, f5, f6, f7, f8⟩ := cc5_ a6.out; obtain ⟨f9, g0, g1, g2⟩ := cf4_ a6.out; have g3 := blk_frozen a6.out 4))
 (try simp only [Act.put, List.setIfInBounds_toArray, List.set_cons_zero, List.set_cons_succ])
 go_cut [] (fun wc => ∃ (kq : Nat) (c0 : Int) (a7 : Int) (a8 : Int) (a9 : Int) (b5 : Int) (b6 : Int), Aside0 (spec_l20Op.j0 kq a1 s0_0 c0 a7 a8 a9 b5 b6 = some (r1, r2, r3, r4, r5, r6)) ∧ Aside0 (kq ≤ k) ∧ Aside0 (wc.heap[b9]? = some (.cells #[.int .i64 0, .int .i64 0, .int .i64 0, .int .i64 0, .int .i64 0] 23 (0, 0))) ∧ Aside0 (wc.heap[c5]? = some (.cells #[.int .i64 a7, .int .i64 a8, .int .i64 a9, .int .i64 b5, .int .i64 b6] 23 (0, 0))) ∧ Aside0 (IsS89 w0 wc g s0_0 c0) ∧ Aside0 (KeepBut w wc g none) ∧ Aside0 (Below w0.heap.size w0 wc))
 case first =>
  have H := HC4.out; clear HC4
  by_cases c11 : (wrap64 (1 + b8)) = 1
  ·
   rw [if_pos c11] at H
   have d2 := beq_iff_eq.mpr c11; have k8 := bne_eq_false_iff_eq.mpr c11; clear c11
   (first | rw [d2] | (simp only [i64_w, i32_w]; rw [d2]) | skip)
   obtain ⟨⟨e7, l5⟩, A12, H⟩ := bindA H; (try dsimp only at H); obtain ⟨⟨g4, l6⟩, A13, H⟩ := bindA H; (try dsimp only at H); obtain ⟨⟨l3, l7⟩, A14, H⟩ := bindA H; (try dsimp only at H); obtain ⟨⟨l8, l9⟩, A15, H⟩ := bindA H; (try dsimp only at H); have H' := yaa H; clear H
   go_wp2_with (first | ((with_reducible refine gc_ 37 rfl ?_); refine gl_ (some 15) rfl Tryd.func37 #[.pointer (some ⟨g, 0, none⟩), .int .i64 3] ?_; (with_reducible refine (spec_l20Rd_pick.calls k g s0_0 e6 3 e7 l5 w0 _ ?side1 ?side2 A12.out).mono ?_); (case side1 => repeat (with_reducible first | exact HI0.out | apply yah | apply yai | apply yam | apply yaj | refine yab ?_ a5.out _ | refine yab ?_ a3.out _)); (case side2 => repeat (with_reducible first | exact HB.out | apply yan | apply yad | apply yao | refine yac ?_ (Aside0.out ‹_›) | refine yac ?_ (yas HI0.out))); rintro e w16 ⟨rfl, hi, hb, hk⟩; refine ⟨_, rfl, ?_⟩; replace a4 := yaa (yag hk (g' := b9) (o := .cells #[.int .i64 0, .int .i64 0, .int .i64 0, .int .i64 0, .int .i64 0] 23 (0, 0)) (by repeat (with_reducible first | exact a4.out | refine oneB ?_ | refine blk_far ?_ b1.out _)) b2.out (by simp)); replace a6 := yaa (yag hk (g' := c5) (o := .cells #[.int .i64 (wrap64 (1 + b8)), .int .i64 0, .int .i64 0, .int .i64 0, .int .i64 0] 23 (0, 0)) (by (repeat refine oneB ?_); refine yar (cs := #[.int .i64 (wrap64 (1 + b8)), .int .i64 0, .int .i64 0, .int .i64 0, .int .i64 0]) ?_ 4 _ rfl; refine yar (cs := #[.int .i64 (wrap64 (1 + b8)), .int .i64 0, .int .i64 0, .int .i64 0, .int .i64 0]) ?_ 3 _ rfl; refine yar (cs := #[.int .i64 (wrap64 (1 + b8)), .int .i64 0, .int .i64 0, .int .i64 0, .int .i64 0]) ?_ 2 _ rfl; refine yar (cs := #[.int .i64 (wrap64 (1 + b8)), .int .i64 0, .int .i64 0, .int .i64 0, .int .i64 0]) ?_ 1 _ rfl; refine yar (cs := #[.int .i64 0, .int .i64 0, .int .i64 0, .int .i64 0, .int .i64 0]) ?_ 0 _ rfl; exact upB a6.out) b0.out (by simp)); replace HK := yaa (yap (by repeat (with_reducible first | exact HK.out | apply yae | apply yak | apply yaq | apply yal | refine yaf ?_ b3.out _ | refine yaf ?_ b4.out _)) hk (.inl rfl)); replace HB := yaa (hb); replace HI0 := yaa (hi); (try clear hb hk hi)) | ((with_reducible refine gc_ 37 rfl ?_); refine gl_ (some 17) rfl Tryd.func37 #[.pointer (some ⟨g, 0, none⟩), .int .i64 3] ?_; (with_reducible refine (spec_l20Rd_pick.calls k g s0_0 l5 3 g4 l6 w0 _ ?side1 ?side2 A13.out).mono ?_); (case side1 => repeat (with_reducible first | exact HI0.out | apply yah | apply yai | apply yam | apply yaj | refine yab ?_ a5.out _ | refine yab ?_ a3.out _)); (case side2 => repeat (with_reducible first | exact HB.out | apply yan | apply yad | apply yao | refine yac ?_ (Aside0.out ‹_›) | refine yac ?_ (yas HI0.out))); rintro e w17 ⟨rfl, hi, hb, hk⟩; refine ⟨_, rfl, ?_⟩; replace a4 := yaa (yag hk (upB a4.out) b2.out (by simp)); replace a6 := yaa (yag hk (upB a6.out) b0.out (by simp)); replace HK := yaa (yap (by repeat (with_reducible first | exact HK.out | apply yae | apply yak | apply yaq | apply yal | refine yaf ?_ b3.out _ | refine yaf ?_ b4.out _)) hk (.inl rfl)); replace HB := yaa (hb); replace HI0 := yaa (hi); (try clear hb hk hi)) | ((with_reducible refine gc_ 37 rfl ?_); refine gl_ (some 19) rfl Tryd.func37 #[.pointer (some ⟨g, 0, none⟩), .int .i64 4] ?_; (with_reducible refine (spec_l20Rd_pick.calls k g s0_0 l6 4 l3 l7 w0 _ ?side1 ?side2 A14.out).mono ?_); (case side1 => repeat (with_reducible first | exact HI0.out | apply yah | apply yai | apply yam | apply yaj | refine yab ?_ a5.out _ | refine yab ?_ a3.out _)); (case side2 => repeat (with_reducible first | exact HB.out | apply yan | apply yad | apply yao | refine yac ?_ (Aside0.out ‹_›) | refine yac ?_ (yas HI0.out))); rintro e w18 ⟨rfl, hi, hb, hk⟩; refine ⟨_, rfl, ?_⟩; replace a4 := yaa (yag hk (upB a4.out) b2.out (by simp)); replace a6 := yaa (yag hk (upB a6.out) b0.out (by simp)); replace HK := yaa (yap (by repeat (with_reducible first | exact HK.out | apply yae | apply yak | apply yaq | apply yal | refine yaf ?_ b3.out _ | refine yaf ?_ b4.out _)) hk (.inl rfl)); replace HB := yaa (hb); replace HI0 := yaa (hi); (try clear hb hk hi)) | ((with_reducible refine gc_ 37 rfl ?_); refine gl_ (some 22) rfl Tryd.func37 #[.pointer (some ⟨g, 0, none⟩), .int .i64 4] ?_; (with_reducible refine (spec_l20Rd_pick.calls k g s0_0 l7 4 l8 l9 w0 _ ?side1 ?side2 A15.out).mono ?_); (case side1 => repeat (with_reducible first | exact HI0.out | apply yah | apply yai | apply yam | apply yaj | refine yab ?_ a5.out _ | refine yab ?_ a3.out _)); (case side2 => repeat (with_reducible first | exact HB.out | apply yan | apply yad | apply yao | refine yac ?_ (Aside0.out ‹_›) | refine yac ?_ (yas HI0.out))); rintro e w19 ⟨rfl, hi, hb, hk⟩; refine ⟨_, rfl, ?_⟩; replace a4 := yaa (yag hk (upB a4.out) b2.out (by simp)); replace a6 := yaa (yag hk (upB a6.out) b0.out (by simp)); replace HK := yaa (yap (by repeat (with_reducible first | exact HK.out | apply yae | apply yak | apply yaq | apply yal | refine yaf ?_ b3.out _ | refine yaf ?_ b4.out _)) hk (.inl rfl)); replace HB := yaa (hb); replace HI0 := yaa (hi); (try clear hb hk hi); have C0 := b7.out; have C1 := b1.out; have C2 := b0.out; have C3 := a3.out; obtain ⟨g5, g6, g7, g8, g9⟩ := cc5_ a6.out; obtain ⟨h0, h1, h2, h3⟩ := cf4_ a6.out; have h4 := blk_frozen a6.out 4))
   go_meet
   case rel => exact ⟨_, (l9), (1), (e7), (g4), (wrap64 (1 + l3)), (wrap64 (1 + l8)), H', ⟨by first | omega | exact Nat.le_refl _⟩, ⟨by repeat (with_reducible first | exact a4.out | refine oneB ?_ | refine blk_far ?_ b1.out _)⟩, ⟨by (repeat refine oneB ?_); refine yar (cs := #[.int .i64 1, .int .i64 e7, .int .i64 g4, .int .i64 (wrap64 (1 + l3)), .int .i64 0]) ?_ 4 _ rfl; refine yar (cs := #[.int .i64 1, .int .i64 e7, .int .i64 g4, .int .i64 0, .int .i64 0]) ?_ 3 _ rfl; refine yar (cs := #[.int .i64 1, .int .i64 e7, .int .i64 0, .int .i64 0, .int .i64 0]) ?_ 2 _ rfl; refine yar (cs := #[.int .i64 1, .int .i64 0, .int .i64 0, .int .i64 0, .int .i64 0]) ?_ 1 _ rfl; refine yar (cs := #[.int .i64 (wrap64 (1 + b8)), .int .i64 0, .int .i64 0, .int .i64 0, .int .i64 0]) ?_ 0 _ rfl; exact upB a6.out⟩, ⟨by repeat (with_reducible first | exact HI0.out | apply yah | apply yai | apply yam | apply yaj | refine yab ?_ a5.out _ | refine yab ?_ a3.out _)⟩, ⟨by repeat (with_reducible first | exact HK.out | apply yae | apply yak | apply yaq | apply yal | refine yaf ?_ b3.out _ | refine yaf ?_ b4.out _)⟩, ⟨by repeat (with_reducible first | exact HB.out | apply yan | apply yad | apply yao | refine yac ?_ (Aside0.out ‹_›) | refine yac ?_ (yas HI0.out))⟩⟩
  ·
   rw [if_neg c11] at H
   have d2 := beq_eq_false_iff_ne.mpr c11; have k8 := bne_iff_ne.mpr c11
   (first | rw [d2] | (simp only [i64_w, i32_w]; rw [d2]) | skip)
   by_cases c23 : (wrap64 (1 + b8)) = 7
   ·
    rw [if_pos c23] at H
    have k9 := beq_iff_eq.mpr c23; have l0 := bne_eq_false_iff_eq.mpr c23; clear c23; obtain ⟨⟨e8, m0⟩, A24, H⟩ := bindA H; (try dsimp only at H); obtain ⟨⟨h5, m1⟩, A25, H⟩ := bindA H; (try dsimp only at H); have H' := yaa H; clear H
    go_wp2_with (first | ((with_reducible refine gc_ 37 rfl ?_); refine gl_ (some 28) rfl Tryd.func37 #[.pointer (some ⟨g, 0, none⟩), .int .i64 6] ?_; (with_reducible refine (spec_l20Rd_pick.calls k g s0_0 e6 6 e8 m0 w0 _ ?side1 ?side2 A24.out).mono ?_); (case side1 => repeat (with_reducible first | exact HI0.out | apply yah | apply yai | apply yam | apply yaj | refine yab ?_ a5.out _ | refine yab ?_ a3.out _)); (case side2 => repeat (with_reducible first | exact HB.out | apply yan | apply yad | apply yao | refine yac ?_ (Aside0.out ‹_›) | refine yac ?_ (yas HI0.out))); rintro e w26 ⟨rfl, hi, hb, hk⟩; refine ⟨_, rfl, ?_⟩; replace a4 := yaa (yag hk (g' := b9) (o := .cells #[.int .i64 0, .int .i64 0, .int .i64 0, .int .i64 0, .int .i64 0] 23 (0, 0)) (by repeat (with_reducible first | exact a4.out | refine oneB ?_ | refine blk_far ?_ b1.out _)) b2.out (by simp)); replace a6 := yaa (yag hk (g' := c5) (o := .cells #[.int .i64 (wrap64 (1 + b8)), .int .i64 0, .int .i64 0, .int .i64 0, .int .i64 0] 23 (0, 0)) (by (repeat refine oneB ?_); refine yar (cs := #[.int .i64 (wrap64 (1 + b8)), .int .i64 0, .int .i64 0, .int .i64 0, .int .i64 0]) ?_ 4 _ rfl; refine yar (cs := #[.int .i64 (wrap64 (1 + b8)), .int .i64 0, .int .i64 0, .int .i64 0, .int .i64 0]) ?_ 3 _ rfl; refine yar (cs := #[.int .i64 (wrap64 (1 + b8)), .int .i64 0, .int .i64 0, .int .i64 0, .int .i64 0]) ?_ 2 _ rfl; refine yar (cs := #[.int .i64 (wrap64 (1 + b8)), .int .i64 0, .int .i64 0, .int .i64 0, .int .i64 0]) ?_ 1 _ rfl; refine yar (cs := #[.int .i64 0, .int .i64 0, .int .i64 0, .int .i64 0, .int .i64 0]) ?_ 0 _ rfl; exact upB a6.out) b0.out (by simp)); replace HK := yaa (yap (by repeat (with_reducible first | exact HK.out | apply yae | apply yak | apply yaq | apply yal | refine yaf ?_ b3.out _ | refine yaf ?_ b4.out _)) hk (.inl rfl)); replace HB := yaa (hb); replace HI0 := yaa (hi); (try clear hb hk hi)) | ((with_reducible refine gc_ 37 rfl ?_); refine gl_ (some 31) rfl Tryd.func37 #[.pointer (some ⟨g, 0, none⟩), .int .i64 6] ?_; (with_reducible refine (spec_l20Rd_pick.calls k g s0_0 m0 6 h5 m1 w0 _ ?side1 ?side2 A25.out).mono ?_); (case side1 => repeat (with_reducible first | exact HI0.out | apply yah | apply yai | apply yam | apply yaj | refine yab ?_ a5.out _ | refine yab ?_ a3.out _)); (case side2 => repeat (with_reducible first | exact HB.out | apply yan | apply yad | apply yao | refine yac ?_ (Aside0.out ‹_›) | refine yac ?_ (yas HI0.out))); rintro e w27 ⟨rfl, hi, hb, hk⟩; refine ⟨_, rfl, ?_⟩; replace a4 := yaa (yag hk (upB a4.out) b2.out (by simp)); replace a6 := yaa (yag hk (upB a6.out) b0.out (by simp)); replace HK := yaa (yap (by repeat (with_reducible first | exact HK.out | apply yae | apply yak | apply yaq | apply yal | refine yaf ?_ b3.out _ | refine yaf ?_ b4.out _)) hk (.inl rfl)); replace HB := yaa (hb); replace HI0 := yaa (hi); (try clear hb hk hi); have C4 := b7.out; have C5 := b1.out; have C6 := b0.out; have C7 := a3.out; obtain ⟨h6, h7, h8, h9, i0⟩ := cc5_ a6.out; obtain ⟨i1, i2, i3, i4⟩ := cf4_ a6.out; have i5 := blk_frozen a6.out 4))
    go_meet
    case rel => exact ⟨_, (m1), (7), (wrap64 (1 + e8)), (wrap64 (1 + h5)), (0), (0), H', ⟨by first | omega | exact Nat.le_refl _⟩, ⟨by repeat (with_reducible first | exact a4.out | refine oneB ?_ | refine blk_far ?_ b1.out _)⟩, ⟨by (repeat refine oneB ?_); refine yar (cs := #[.int .i64 7, .int .i64 (wrap64 (1 + e8)), .int .i64 (wrap64 (1 + h5)), .int .i64 0, .int .i64 0]) ?_ 4 _ rfl; refine yar (cs := #[.int .i64 7, .int .i64 (wrap64 (1 + e8)), .int .i64 (wrap64 (1 + h5)), .int .i64 0, .int .i64 0]) ?_ 3 _ rfl; refine yar (cs := #[.int .i64 7, .int .i64 (wrap64 (1 + e8)), .int .i64 0, .int .i64 0, .int .i64 0]) ?_ 2 _ rfl; refine yar (cs := #[.int .i64 7, .int .i64 0, .int .i64 0, .int .i64 0, .int .i64 0]) ?_ 1 _ rfl; refine yar (cs := #[.int .i64 (wrap64 (1 + b8)), .int .i64 0, .int .i64 0, .int .i64 0, .int .i64 0]) ?_ 0 _ rfl; exact upB a6.out⟩, ⟨by repeat (with_reducible first | exact HI0.out | apply yah | apply yai | apply yam | apply yaj | refine yab ?_ a5.out _ | refine yab ?_ a3.out _)⟩, ⟨by repeat (with_reducible first | exact HK.out | apply yae | apply yak | apply yaq | apply yal | refine yaf ?_ b3.out _ | refine yaf ?_ b4.out _)⟩, ⟨by repeat (with_reducible first | exact HB.out | apply yan | apply yad | apply yao | refine yac ?_ (Aside0.out ‹_›) | refine yac ?_ (yas HI0.out))⟩⟩
   ·
    rw [if_neg c23] at H
    have k9 := beq_eq_false_iff_ne.mpr c23; have l0 := bne_iff_ne.mpr c23
    by_cases c31 : (wrap64 (1 + b8)) = 8
    ·
     rw [if_pos c31] at H
     have l1 := beq_iff_eq.mpr c31; have l2 := bne_eq_false_iff_eq.mpr c31; clear c31; obtain ⟨⟨e9, m2⟩, A32, H⟩ := bindA H; (try dsimp only at H); obtain ⟨⟨i6, m3⟩, A33, H⟩ := bindA H; (try dsimp only at H); obtain ⟨⟨l4, m4⟩, A34, H⟩ := bindA H; (try dsimp only at H); have H' := yaa H; clear H
     go_wp2_with (first | ((with_reducible refine gc_ 37 rfl ?_); refine gl_ (some 37) rfl Tryd.func37 #[.pointer (some ⟨g, 0, none⟩), .int .i64 256] ?_; (with_reducible refine (spec_l20Rd_pick.calls k g s0_0 e6 256 e9 m2 w0 _ ?side1 ?side2 A32.out).mono ?_); (case side1 => repeat (with_reducible first | exact HI0.out | apply yah | apply yai | apply yam | apply yaj | refine yab ?_ a5.out _ | refine yab ?_ a3.out _)); (case side2 => repeat (with_reducible first | exact HB.out | apply yan | apply yad | apply yao | refine yac ?_ (Aside0.out ‹_›) | refine yac ?_ (yas HI0.out))); rintro e w35 ⟨rfl, hi, hb, hk⟩; refine ⟨_, rfl, ?_⟩; replace a4 := yaa (yag hk (g' := b9) (o := .cells #[.int .i64 0, .int .i64 0, .int .i64 0, .int .i64 0, .int .i64 0] 23 (0, 0)) (by repeat (with_reducible first | exact a4.out | refine oneB ?_ | refine blk_far ?_ b1.out _)) b2.out (by simp)); replace a6 := yaa (yag hk (g' := c5) (o := .cells #[.int .i64 (wrap64 (1 + b8)), .int .i64 0, .int .i64 0, .int .i64 0, .int .i64 0] 23 (0, 0)) (by (repeat refine oneB ?_); refine yar (cs := #[.int .i64 (wrap64 (1 + b8)), .int .i64 0, .int .i64 0, .int .i64 0, .int .i64 0]) ?_ 4 _ rfl; refine yar (cs := #[.int .i64 (wrap64 (1 + b8)), .int .i64 0, .int .i64 0, .int .i64 0, .int .i64 0]) ?_ 3 _ rfl; refine yar (cs := #[.int .i64 (wrap64 (1 + b8)), .int .i64 0, .int .i64 0, .int .i64 0, .int .i64 0]) ?_ 2 _ rfl; refine yar (cs := #[.int .i64 (wrap64 (1 + b8)), .int .i64 0, .int .i64 0, .int .i64 0, .int .i64 0]) ?_ 1 _ rfl; refine yar (cs := #[.int .i64 0, .int .i64 0, .int .i64 0, .int .i64 0, .int .i64 0]) ?_ 0 _ rfl; exact upB a6.out) b0.out (by simp)); replace HK := yaa (yap (by repeat (with_reducible first | exact HK.out | apply yae | apply yak | apply yaq | apply yal | refine yaf ?_ b3.out _ | refine yaf ?_ b4.out _)) hk (.inl rfl)); replace HB := yaa (hb); replace HI0 := yaa (hi); (try clear hb hk hi)) | ((with_reducible refine gc_ 37 rfl ?_); refine gl_ (some 39) rfl Tryd.func37 #[.pointer (some ⟨g, 0, none⟩), .int .i64 256] ?_; (with_reducible refine (spec_l20Rd_pick.calls k g s0_0 m2 256 i6 m3 w0 _ ?side1 ?side2 A33.out).mono ?_); (case side1 => repeat (with_reducible first | exact HI0.out | apply yah | apply yai | apply yam | apply yaj | refine yab ?_ a5.out _ | refine yab ?_ a3.out _)); (case side2 => repeat (with_reducible first | exact HB.out | apply yan | apply yad | apply yao | refine yac ?_ (Aside0.out ‹_›) | refine yac ?_ (yas HI0.out))); rintro e w36 ⟨rfl, hi, hb, hk⟩; refine ⟨_, rfl, ?_⟩; replace a4 := yaa (yag hk (upB a4.out) b2.out (by simp)); replace a6 := yaa (yag hk (upB a6.out) b0.out (by simp)); replace HK := yaa (yap (by repeat (with_reducible first | exact HK.out | apply yae | apply yak | apply yaq | apply yal | refine yaf ?_ b3.out _ | refine yaf ?_ b4.out _)) hk (.inl rfl)); replace HB := yaa (hb); replace HI0 := yaa (hi); (try clear hb hk hi)) | ((with_reducible refine gc_ 37 rfl ?_); refine gl_ (some 41) rfl Tryd.func37 #[.pointer (some ⟨g, 0, none⟩), .int .i64 256] ?_; (with_reducible refine (spec_l20Rd_pick.calls k g s0_0 m3 256 l4 m4 w0 _ ?side1 ?side2 A34.out).mono ?_); (case side1 => repeat (with_reducible first | exact HI0.out | apply yah | apply yai | apply yam | apply yaj | refine yab ?_ a5.out _ | refine yab ?_ a3.out _)); (case side2 => repeat (with_reducible first | exact HB.out | apply yan | apply yad | apply yao | refine yac ?_ (Aside0.out ‹_›) | refine yac ?_ (yas HI0.out))); rintro e w37 ⟨rfl, hi, hb, hk⟩; refine ⟨_, rfl, ?_⟩; replace a4 := yaa (yag hk (upB a4.out) b2.out (by simp)); replace a6 := yaa (yag hk (upB a6.out) b0.out (by simp)); replace HK := yaa (yap (by repeat (with_reducible first | exact HK.out | apply yae | apply yak | apply yaq | apply yal | refine yaf ?_ b3.out _ | refine yaf ?_ b4.out _)) hk (.inl rfl)); replace HB := yaa (hb); replace HI0 := yaa (hi); (try clear hb hk hi); have C8 := b7.out; have C9 := b1.out; have D0 := b0.out; have D1 := a3.out; obtain ⟨i7, i8, i9, j1, j2⟩ := cc5_ a6.out; obtain ⟨j3, j4, j5, j6⟩ := cf4_ a6.out; have j7 := blk_frozen a6.out 4))
     go_meet
     case rel => exact ⟨_, (m4), (8), (e9), (i6), (l4), (0), H', ⟨by first | omega | exact Nat.le_refl _⟩, ⟨by repeat (with_reducible first | exact a4.out | refine oneB ?_ | refine blk_far ?_ b1.out _)⟩, ⟨by (repeat refine oneB ?_); refine yar (cs := #[.int .i64 8, .int .i64 e9, .int .i64 i6, .int .i64 l4, .int .i64 0]) ?_ 4 _ rfl; refine yar (cs := #[.int .i64 8, .int .i64 e9, .int .i64 i6, .int .i64 0, .int .i64 0]) ?_ 3 _ rfl; refine yar (cs := #[.int .i64 8, .int .i64 e9, .int .i64 0, .int .i64 0, .int .i64 0]) ?_ 2 _ rfl; refine yar (cs := #[.int .i64 8, .int .i64 0, .int .i64 0, .int .i64 0, .int .i64 0]) ?_ 1 _ rfl; refine yar (cs := #[.int .i64 (wrap64 (1 + b8)), .int .i64 0, .int .i64 0, .int .i64 0, .int .i64 0]) ?_ 0 _ rfl; exact upB a6.out⟩, ⟨by repeat (with_reducible first | exact HI0.out | apply yah | apply yai | apply yam | apply yaj | refine yab ?_ a5.out _ | refine yab ?_ a3.out _)⟩, ⟨by repeat (with_reducible first | exact HK.out | apply yae | apply yak | apply yaq | apply yal | refine yaf ?_ b3.out _ | refine yaf ?_ b4.out _)⟩, ⟨by repeat (with_reducible first | exact HB.out | apply yan | apply yad | apply yao | refine yac ?_ (Aside0.out ‹_›) | refine yac ?_ (yas HI0.out))⟩⟩
    ·
     rw [if_neg c31] at H
     have l1 := beq_eq_false_iff_ne.mpr c31; have l2 := bne_iff_ne.mpr c31; have H' := yaa H; clear H
     go_wp2
     go_meet
     case rel => exact ⟨_, (e6), (wrap64 (1 + b8)), (0), (0), (0), (0), H', ⟨by first | omega | exact Nat.le_refl _⟩, ⟨by repeat (with_reducible first | exact a4.out | refine oneB ?_ | refine blk_far ?_ b1.out _)⟩, ⟨by (repeat refine oneB ?_); refine yar (cs := #[.int .i64 (wrap64 (1 + b8)), .int .i64 0, .int .i64 0, .int .i64 0, .int .i64 0]) ?_ 4 _ rfl; refine yar (cs := #[.int .i64 (wrap64 (1 + b8)), .int .i64 0, .int .i64 0, .int .i64 0, .int .i64 0]) ?_ 3 _ rfl; refine yar (cs := #[.int .i64 (wrap64 (1 + b8)), .int .i64 0, .int .i64 0, .int .i64 0, .int .i64 0]) ?_ 2 _ rfl; refine yar (cs := #[.int .i64 (wrap64 (1 + b8)), .int .i64 0, .int .i64 0, .int .i64 0, .int .i64 0]) ?_ 1 _ rfl; refine yar (cs := #[.int .i64 0, .int .i64 0, .int .i64 0, .int .i64 0, .int .i64 0]) ?_ 0 _ rfl; exact upB a6.out⟩, ⟨by repeat (with_reducible first | exact HI0.out | apply yah | apply yai | apply yam | apply yaj | refine yab ?_ a5.out _ | refine yab ?_ a3.out _)⟩, ⟨by repeat (with_reducible first | exact HK.out | apply yae | apply yak | apply yaq | apply yal | refine yaf ?_ b3.out _ | refine yaf ?_ b4.out _)⟩, ⟨by repeat (with_reducible first | exact HB.out | apply yan | apply yad | apply yao | refine yac ?_ (Aside0.out ‹_›) | refine yac ?_ (yas HI0.out))⟩⟩
 case rest =>
  clear HC4; (try clear c1); (try clear c2); (try clear p2); (try clear c3); (try clear p6); (try clear c8); (try clear c9); (try clear c11); (try clear d2); (try clear k8); (try clear c20); (try clear c21); (try clear c23); (try clear k9); (try clear l0); (try clear c28); (try clear c29); (try clear c31); (try clear l1); (try clear l2); (try clear c35); (try clear c37); (try clear c38); (try clear c39); (try clear f4); (try clear f5); (try clear f6); (try clear f7); (try clear f8); (try clear g5); (try clear g6); (try clear g7); (try clear g8); (try clear g9); (try clear h6); (try clear h7); (try clear h8); (try clear h9); (try clear i0); (try clear i7); (try clear i8); (try clear i9); (try clear j1); (try clear j2); (try clear f9); (try clear g0); (try clear g1); (try clear g2); (try clear g3); (try clear h0); (try clear h1); (try clear h2); (try clear h3); (try clear h4); (try clear i1); (try clear i2); (try clear i3); (try clear i4); (try clear i5); (try clear j3); (try clear j4); (try clear j5); (try clear j6); (try clear j7); obtain ⟨kq, c0, a7, a8, a9, b5, b6, HA, HJ3, a4, a6, HI0, HK, HB⟩ := hcut
  cases kq with
  | zero => exact absurd HA.out (by simp [spec_l20Op.j0])
  | succ kj3 =>
   have H := HA.out; clear HA
   simp only [spec_l20Op.j0] at H
   obtain ⟨⟨z6, d3⟩, A41, H⟩ := bindA H; (try dsimp only at H)
   by_cases c42 : z6 = true
   ·
    subst c42
    rw [if_pos rfl] at H
    obtain ⟨⟨d6, c4⟩, A43, H⟩ := bindA H; (try dsimp only at H)
    by_cases c44 : d6 = 0
    ·
     rw [if_pos c44] at H
     have m5 := beq_iff_eq.mpr c44; have m6 := bne_eq_false_iff_eq.mpr c44; clear c44; obtain ⟨y127, hy127⟩ : ∃ y_ : List Int, y_ = (([0, 9] : List Int)) := ⟨_, rfl⟩
     replace H : ((spec_l20Rd_pick.f kj3 s0_0 c4 2).bind fun d8 => (if 0 ≤ d8.1 then (if d8.1 < (y127.length : Int) then (some (rd y127 d8.1, a8, a9, b5, b6, d8.2)) else (none)) else (none))) = some (r1, r2, r3, r4, r5, r6) := by first | (rw [hy127]; with_reducible exact H) | (have H2_ := (Option.bind_some _ _).symm.trans H; rw [hy127]; with_reducible exact H2_) | (have H2_ := (Option.bind_some _ _).symm.trans H; with_reducible exact H2_) | with_reducible exact H | (rw [hy127]; exact H) | exact H
     have Ny127 := yaa hy127; clear hy127; obtain ⟨⟨d0, z7⟩, A45, H⟩ := bindA H; (try dsimp only at H)
     by_cases c46 : 0 ≤ d0
     ·
      rw [if_pos c46] at H
      replace c46 := decide_eq_true c46
      by_cases c47 : d0 < (y127.length : Int)
      ·
       rw [if_pos c47] at H
       replace c47 := decide_eq_true c47
       simp only [Option.some.injEq, Prod.mk.injEq] at H
       obtain ⟨rfl, rfl, rfl, rfl, rfl, rfl⟩ := H
       go_wp2_with (first | ((with_reducible refine gc_ 67 rfl ?_); refine gl_ (some 45) rfl Tryd.func67 #[.pointer (some ⟨g, 0, none⟩), .int .i64 a1] ?_; (with_reducible refine (spec_l20Rd_odd.calls kj3 g s0_0 c0 a1 true d3 w0 _ ?side1 ?side2 A41.out).mono ?_); (case side1 => repeat (with_reducible first | exact HI0.out | apply yah | apply yai | apply yam | apply yaj | refine yab ?_ a5.out _ | refine yab ?_ a3.out _)); (case side2 => repeat (with_reducible first | exact HB.out | apply yan | apply yad | apply yao | refine yac ?_ (Aside0.out ‹_›) | refine yac ?_ (yas HI0.out))); rintro e w48 ⟨rfl, hi, hb, hk⟩; refine ⟨_, rfl, ?_⟩; replace a4 := yaa (yag hk (upB a4.out) b2.out (by simp)); replace a6 := yaa (yag hk (upB a6.out) b0.out (by simp)); replace HK := yaa (yap (by repeat (with_reducible first | exact HK.out | apply yae | apply yak | apply yaq | apply yal | refine yaf ?_ b3.out _ | refine yaf ?_ b4.out _)) hk (.inl rfl)); replace HB := yaa (hb); replace HI0 := yaa (hi); (try clear hb hk hi)) | ((with_reducible refine gc_ 37 rfl ?_); refine gl_ (some 47) rfl Tryd.func37 #[.pointer (some ⟨g, 0, none⟩), .int .i64 4] ?_; (with_reducible refine (spec_l20Rd_pick.calls kj3 g s0_0 d3 4 d6 c4 w0 _ ?side1 ?side2 A43.out).mono ?_); (case side1 => repeat (with_reducible first | exact HI0.out | apply yah | apply yai | apply yam | apply yaj | refine yab ?_ a5.out _ | refine yab ?_ a3.out _)); (case side2 => repeat (with_reducible first | exact HB.out | apply yan | apply yad | apply yao | refine yac ?_ (Aside0.out ‹_›) | refine yac ?_ (yas HI0.out))); rintro e w49 ⟨rfl, hi, hb, hk⟩; refine ⟨_, rfl, ?_⟩; replace a4 := yaa (yag hk (upB a4.out) b2.out (by simp)); replace a6 := yaa (yag hk (upB a6.out) b0.out (by simp)); replace HK := yaa (yap (by repeat (with_reducible first | exact HK.out | apply yae | apply yak | apply yaq | apply yal | refine yaf ?_ b3.out _ | refine yaf ?_ b4.out _)) hk (.inl rfl)); replace HB := yaa (hb); replace HI0 := yaa (hi); (try clear hb hk hi)) | ((with_reducible refine gd_ 56 rfl ?_); refine Kd.R_lit (Kd.int .i64) _ 3 ?hg (N := 56) ?hd (xs := ([0, 9] : List Int)) (inner := [.int .i64 0, .int .i64 9]) (ok := fun _ => True) (okp := fun _ => True) ?hr ?hp (fun _ hk => hk) trivial (Below.refl _ _) (Nat.le_refl _) (by simp) ?_; (case hd => rfl); (case hg => rfl); (case hr => first | (go_simp; done) | (go_simp; rfl)); (case hp => exact (Reps.one (show Kd.M (Kd.int .i64) _ _ _ 0 [.int .i64 0] from rfl) (Reps.one (show Kd.M (Kd.int .i64) _ _ _ 9 [.int .i64 9] from rfl) (Reps.none _ _)))); intro F8 w50 f0 hb hg_ hnew_; clear hg_ hnew_; (first | rw [← Ny127.out] at f0 | (simp only [Int.reduceToNat] at f0; rw [← Ny127.out] at f0)); have d9 := yaa (Kd.R_lower f0 (keep_size (w := w) (g := g) (row := none) (by repeat (with_reducible first | exact HK.out | apply yae | apply yak | apply yaq | apply yal | refine yaf ?_ b3.out _ | refine yaf ?_ b4.out _)))); replace a4 := yaa (blk_below (upB a4.out) hb); replace a6 := yaa (blk_below (upB a6.out) hb); replace HK := yaa (yap (by repeat (with_reducible first | exact HK.out | apply yae | apply yak | apply yaq | apply yal | refine yaf ?_ b3.out _ | refine yaf ?_ b4.out _)) (KeepBut.of_below hb g none) (.inl rfl)); replace HB := yaa (below_step (by repeat (with_reducible first | exact HB.out | apply yan | apply yad | apply yao | refine yac ?_ (Aside0.out ‹_›) | refine yac ?_ (yas HI0.out))) hb); replace HI0 := yaa (IsS89.below (by repeat (with_reducible first | exact HI0.out | apply yah | apply yai | apply yam | apply yaj | refine yab ?_ a5.out _ | refine yab ?_ a3.out _)) hb); clear hb f0) | ((with_reducible refine gc_ 37 rfl ?_); refine gl_ (some 58) rfl Tryd.func37 #[.pointer (some ⟨g, 0, none⟩), .int .i64 2] ?_; (with_reducible refine (spec_l20Rd_pick.calls kj3 g s0_0 c4 2 d0 z7 w0 _ ?side1 ?side2 A45.out).mono ?_); (case side1 => repeat (with_reducible first | exact HI0.out | apply yah | apply yai | apply yam | apply yaj | refine yab ?_ a5.out _ | refine yab ?_ a3.out _)); (case side2 => repeat (with_reducible first | exact HB.out | apply yan | apply yad | apply yao | refine yac ?_ (Aside0.out ‹_›) | refine yac ?_ (yas HI0.out))); rintro e w52 ⟨rfl, hi, hb, hk⟩; refine ⟨_, rfl, ?_⟩; replace a4 := yaa (yag hk (upB a4.out) b2.out (by simp)); replace a6 := yaa (yag hk (upB a6.out) b0.out (by simp)); replace d9 := yaa (Kd.R_mono (Kd.R_keep (IsS89.apart (show IsS89 w0 _ g s0_0 c4 from by repeat (with_reducible first | exact HI0.out | apply yah | apply yai | apply yam | apply yaj | refine yab ?_ a5.out _ | refine yab ?_ a3.out _)) (upR d9.out) (by decide)) hk (fun _ h => h.2)) (fun _ h => h.1)); replace HK := yaa (yap (by repeat (with_reducible first | exact HK.out | apply yae | apply yak | apply yaq | apply yal | refine yaf ?_ b3.out _ | refine yaf ?_ b4.out _)) hk (.inl rfl)); replace HB := yaa (hb); replace HI0 := yaa (hi); (try clear hb hk hi); obtain ⟨F9, G0, z8⟩ := Kd.R_slice d9.out; subst z8; have p132 : 0 ≤ (d0 : Int) := of_decide_eq_true (by assumption); have q132 : d0 < (y127.length : Int) := of_decide_eq_true (by assumption); obtain ⟨ad132, z9, r9⟩ := Kd.at_int (Kd.R_reads' d9.out).2.2 d0 p132 q132; cases z9; replace p132 := eq_true p132; replace q132 := eq_true q132; have D2 := b7.out; have D3 := b1.out; have D4 := b0.out; have D5 := a3.out; obtain ⟨s0, s1, s2, s3, s4⟩ := cc5_ a6.out; obtain ⟨s5, s6, s7, s8, s9⟩ := cf5_ a6.out; have D6 := b2.out; have D7 := a5.out; obtain ⟨t0, t1, t2, t3, t4⟩ := cc5_ a4.out; obtain ⟨t5, t6, t7, t8⟩ := cf4_ a4.out; have t9 := blk_frozen a4.out 4))
       refine bodyPost_ret (results_cell_row rfl _ _ b9 23 #[.int .i64 (rd y127 d0), .int .i64 a8, .int .i64 a9, .int .i64 b5, .int .i64 b6] (0, 0) _ rfl (by (repeat refine oneB ?_); refine yar (cs := #[.int .i64 (rd y127 d0), .int .i64 a8, .int .i64 a9, .int .i64 b5, .int .i64 0]) ?_ 4 _ rfl; refine yar (cs := #[.int .i64 (rd y127 d0), .int .i64 a8, .int .i64 a9, .int .i64 0, .int .i64 0]) ?_ 3 _ rfl; refine yar (cs := #[.int .i64 (rd y127 d0), .int .i64 a8, .int .i64 0, .int .i64 0, .int .i64 0]) ?_ 2 _ rfl; refine yar (cs := #[.int .i64 (rd y127 d0), .int .i64 0, .int .i64 0, .int .i64 0, .int .i64 0]) ?_ 1 _ rfl; refine yar (cs := #[.int .i64 0, .int .i64 0, .int .i64 0, .int .i64 0, .int .i64 0]) ?_ 0 _ rfl; (repeat refine oneB ?_); refine blk_far ?_ b1.out _; exact upB a4.out) Tryd.underlying23 rfl (by kernel_rfl)) rfl ?_
       exact ⟨by first | rfl | (simp [*, errW_none, errW_some] <;> rfl), by repeat (with_reducible first | exact HI0.out | apply yah | apply yai | apply yam | apply yaj | refine yab ?_ a5.out _ | refine yab ?_ a3.out _), by repeat (with_reducible first | exact HB.out | apply yan | apply yad | apply yao | refine yac ?_ (Aside0.out ‹_›) | refine yac ?_ (yas HI0.out)), by repeat (with_reducible first | exact HK.out | apply yae | apply yak | apply yaq | apply yal | refine yaf ?_ b3.out _ | refine yaf ?_ b4.out _)⟩
      ·
       rw [if_neg c47] at H
       exact absurd H (by simp)
     ·
      rw [if_neg c46] at H
      exact absurd H (by simp)
    ·
     rw [if_neg c44] at H
     have m5 := beq_eq_false_iff_ne.mpr c44; have m6 := bne_iff_ne.mpr c44
     by_cases c59 : d6 = 1
     ·
      rw [if_pos c59] at H
      have m7 := beq_iff_eq.mpr c59; have m8 := bne_eq_false_iff_eq.mpr c59; clear c59; obtain ⟨y133, hy133⟩ : ∃ y_ : List Int, y_ = (([(-1), 256] : List Int)) := ⟨_, rfl⟩
      replace H : ((spec_l20Rd_pick.f kj3 s0_0 c4 2).bind fun e0 => (if 0 ≤ e0.1 then (if e0.1 < (y133.length : Int) then (some (a7, rd y133 e0.1, a9, b5, b6, e0.2)) else (none)) else (none))) = some (r1, r2, r3, r4, r5, r6) := by first | (rw [hy133]; with_reducible exact H) | (have H2_ := (Option.bind_some _ _).symm.trans H; rw [hy133]; with_reducible exact H2_) | (have H2_ := (Option.bind_some _ _).symm.trans H; with_reducible exact H2_) | with_reducible exact H | (rw [hy133]; exact H) | exact H
      have Ny133 := yaa hy133; clear hy133; obtain ⟨⟨d1, A0⟩, A60, H⟩ := bindA H; (try dsimp only at H)
      by_cases c61 : 0 ≤ d1
      ·
       rw [if_pos c61] at H
       replace c61 := decide_eq_true c61
       by_cases c62 : d1 < (y133.length : Int)
       ·
        rw [if_pos c62] at H
        replace c62 := decide_eq_true c62
        simp only [Option.some.injEq, Prod.mk.injEq] at H
        obtain ⟨rfl, rfl, rfl, rfl, rfl, rfl⟩ := H
        go_wp2_with (first | ((with_reducible refine gc_ 67 rfl ?_); refine gl_ (some 45) rfl Tryd.func67 #[.pointer (some ⟨g, 0, none⟩), .int .i64 a1] ?_; (with_reducible refine (spec_l20Rd_odd.calls kj3 g s0_0 c0 a1 true d3 w0 _ ?side1 ?side2 A41.out).mono ?_); (case side1 => repeat (with_reducible first | exact HI0.out | apply yah | apply yai | apply yam | apply yaj | refine yab ?_ a5.out _ | refine yab ?_ a3.out _)); (case side2 => repeat (with_reducible first | exact HB.out | apply yan | apply yad | apply yao | refine yac ?_ (Aside0.out ‹_›) | refine yac ?_ (yas HI0.out))); rintro e w63 ⟨rfl, hi, hb, hk⟩; refine ⟨_, rfl, ?_⟩; replace a4 := yaa (yag hk (upB a4.out) b2.out (by simp)); replace a6 := yaa (yag hk (upB a6.out) b0.out (by simp)); replace HK := yaa (yap (by repeat (with_reducible first | exact HK.out | apply yae | apply yak | apply yaq | apply yal | refine yaf ?_ b3.out _ | refine yaf ?_ b4.out _)) hk (.inl rfl)); replace HB := yaa (hb); replace HI0 := yaa (hi); (try clear hb hk hi)) | ((with_reducible refine gc_ 37 rfl ?_); refine gl_ (some 47) rfl Tryd.func37 #[.pointer (some ⟨g, 0, none⟩), .int .i64 4] ?_; (with_reducible refine (spec_l20Rd_pick.calls kj3 g s0_0 d3 4 d6 c4 w0 _ ?side1 ?side2 A43.out).mono ?_); (case side1 => repeat (with_reducible first | exact HI0.out | apply yah | apply yai | apply yam | apply yaj | refine yab ?_ a5.out _ | refine yab ?_ a3.out _)); (case side2 => repeat (with_reducible first | exact HB.out | apply yan | apply yad | apply yao | refine yac ?_ (Aside0.out ‹_›) | refine yac ?_ (yas HI0.out))); rintro e w64 ⟨rfl, hi, hb, hk⟩; refine ⟨_, rfl, ?_⟩; replace a4 := yaa (yag hk (upB a4.out) b2.out (by simp)); replace a6 := yaa (yag hk (upB a6.out) b0.out (by simp)); replace HK := yaa (yap (by repeat (with_reducible first | exact HK.out | apply yae | apply yak | apply yaq | apply yal | refine yaf ?_ b3.out _ | refine yaf ?_ b4.out _)) hk (.inl rfl)); replace HB := yaa (hb); replace HI0 := yaa (hi); (try clear hb hk hi)) | ((with_reducible refine gd_ 64 rfl ?_); refine Kd.R_lit (Kd.int .i64) _ 3 ?hg (N := 64) ?hd (xs := ([(-1), 256] : List Int)) (inner := [.int .i64 (-1), .int .i64 256]) (ok := fun _ => True) (okp := fun _ => True) ?hr ?hp (fun _ hk => hk) trivial (Below.refl _ _) (Nat.le_refl _) (by simp) ?_; (case hd => rfl); (case hg => rfl); (case hr => first | (go_simp; done) | (go_simp; rfl)); (case hp => exact (Reps.one (show Kd.M (Kd.int .i64) _ _ _ (-1) [.int .i64 (-1)] from rfl) (Reps.one (show Kd.M (Kd.int .i64) _ _ _ 256 [.int .i64 256] from rfl) (Reps.none _ _)))); intro G1 w65 f1 hb hg_ hnew_; clear hg_ hnew_; (first | rw [← Ny133.out] at f1 | (simp only [Int.reduceToNat] at f1; rw [← Ny133.out] at f1)); have e1 := yaa (Kd.R_lower f1 (keep_size (w := w) (g := g) (row := none) (by repeat (with_reducible first | exact HK.out | apply yae | apply yak | apply yaq | apply yal | refine yaf ?_ b3.out _ | refine yaf ?_ b4.out _)))); replace a4 := yaa (blk_below (upB a4.out) hb); replace a6 := yaa (blk_below (upB a6.out) hb); replace HK := yaa (yap (by repeat (with_reducible first | exact HK.out | apply yae | apply yak | apply yaq | apply yal | refine yaf ?_ b3.out _ | refine yaf ?_ b4.out _)) (KeepBut.of_below hb g none) (.inl rfl)); replace HB := yaa (below_step (by repeat (with_reducible first | exact HB.out | apply yan | apply yad | apply yao | refine yac ?_ (Aside0.out ‹_›) | refine yac ?_ (yas HI0.out))) hb); replace HI0 := yaa (IsS89.below (by repeat (with_reducible first | exact HI0.out | apply yah | apply yai | apply yam | apply yaj | refine yab ?_ a5.out _ | refine yab ?_ a3.out _)) hb); clear hb f1) | ((with_reducible refine gc_ 37 rfl ?_); refine gl_ (some 66) rfl Tryd.func37 #[.pointer (some ⟨g, 0, none⟩), .int .i64 2] ?_; (with_reducible refine (spec_l20Rd_pick.calls kj3 g s0_0 c4 2 d1 A0 w0 _ ?side1 ?side2 A60.out).mono ?_); (case side1 => repeat (with_reducible first | exact HI0.out | apply yah | apply yai | apply yam | apply yaj | refine yab ?_ a5.out _ | refine yab ?_ a3.out _)); (case side2 => repeat (with_reducible first | exact HB.out | apply yan | apply yad | apply yao | refine yac ?_ (Aside0.out ‹_›) | refine yac ?_ (yas HI0.out))); rintro e w67 ⟨rfl, hi, hb, hk⟩; refine ⟨_, rfl, ?_⟩; replace a4 := yaa (yag hk (upB a4.out) b2.out (by simp)); replace a6 := yaa (yag hk (upB a6.out) b0.out (by simp)); replace e1 := yaa (Kd.R_mono (Kd.R_keep (IsS89.apart (show IsS89 w0 _ g s0_0 c4 from by repeat (with_reducible first | exact HI0.out | apply yah | apply yai | apply yam | apply yaj | refine yab ?_ a5.out _ | refine yab ?_ a3.out _)) (upR e1.out) (by decide)) hk (fun _ h => h.2)) (fun _ h => h.1)); replace HK := yaa (yap (by repeat (with_reducible first | exact HK.out | apply yae | apply yak | apply yaq | apply yal | refine yaf ?_ b3.out _ | refine yaf ?_ b4.out _)) hk (.inl rfl)); replace HB := yaa (hb); replace HI0 := yaa (hi); (try clear hb hk hi); obtain ⟨G2, G3, A1⟩ := Kd.R_slice e1.out; subst A1; have p138 : 0 ≤ (d1 : Int) := of_decide_eq_true (by assumption); have q138 : d1 < (y133.length : Int) := of_decide_eq_true (by assumption); obtain ⟨ad138, A2, u0⟩ := Kd.at_int (Kd.R_reads' e1.out).2.2 d1 p138 q138; cases A2; replace p138 := eq_true p138; replace q138 := eq_true q138; have D8 := b7.out; have D9 := b1.out; have E0 := b0.out; have E1 := a3.out; obtain ⟨u1, u2, u3, u4, u5⟩ := cc5_ a6.out; obtain ⟨u6, u7, u8, u9, v0⟩ := cf5_ a6.out; have E2 := b2.out; have E3 := a5.out; obtain ⟨v1, v2, v3, v4, v5⟩ := cc5_ a4.out; obtain ⟨v6, v7, v8, v9⟩ := cf4_ a4.out; have w1 := blk_frozen a4.out 4))
        refine bodyPost_ret (results_cell_row rfl _ _ b9 23 #[.int .i64 a7, .int .i64 (rd y133 d1), .int .i64 a9, .int .i64 b5, .int .i64 b6] (0, 0) _ rfl (by (repeat refine oneB ?_); refine yar (cs := #[.int .i64 a7, .int .i64 (rd y133 d1), .int .i64 a9, .int .i64 b5, .int .i64 0]) ?_ 4 _ rfl; refine yar (cs := #[.int .i64 a7, .int .i64 (rd y133 d1), .int .i64 a9, .int .i64 0, .int .i64 0]) ?_ 3 _ rfl; refine yar (cs := #[.int .i64 a7, .int .i64 (rd y133 d1), .int .i64 0, .int .i64 0, .int .i64 0]) ?_ 2 _ rfl; refine yar (cs := #[.int .i64 a7, .int .i64 0, .int .i64 0, .int .i64 0, .int .i64 0]) ?_ 1 _ rfl; refine yar (cs := #[.int .i64 0, .int .i64 0, .int .i64 0, .int .i64 0, .int .i64 0]) ?_ 0 _ rfl; (repeat refine oneB ?_); refine blk_far ?_ b1.out _; exact upB a4.out) Tryd.underlying23 rfl (by kernel_rfl)) rfl ?_
        exact ⟨by first | rfl | (simp [*, errW_none, errW_some] <;> rfl), by repeat (with_reducible first | exact HI0.out | apply yah | apply yai | apply yam | apply yaj | refine yab ?_ a5.out _ | refine yab ?_ a3.out _), by repeat (with_reducible first | exact HB.out | apply yan | apply yad | apply yao | refine yac ?_ (Aside0.out ‹_›) | refine yac ?_ (yas HI0.out)), by repeat (with_reducible first | exact HK.out | apply yae | apply yak | apply yaq | apply yal | refine yaf ?_ b3.out _ | refine yaf ?_ b4.out _)⟩
       ·
        rw [if_neg c62] at H
        exact absurd H (by simp)
      ·
       rw [if_neg c61] at H
       exact absurd H (by simp)
     ·
      rw [if_neg c59] at H
      have m7 := beq_eq_false_iff_ne.mpr c59; have m8 := bne_iff_ne.mpr c59
      by_cases c74 : d6 = 2
      ·
       rw [if_pos c74] at H
       have m9 := beq_iff_eq.mpr c74; have n0 := bne_eq_false_iff_eq.mpr c74; clear c74; obtain ⟨y139, hy139⟩ : ∃ y_ : List Int, y_ = (([(-1), 256] : List Int)) := ⟨_, rfl⟩
       replace H : ((spec_l20Rd_pick.f kj3 s0_0 c4 2).bind fun e2 => (if 0 ≤ e2.1 then (if e2.1 < (y139.length : Int) then (some (a7, a8, a9, rd y139 e2.1, b6, e2.2)) else (none)) else (none))) = some (r1, r2, r3, r4, r5, r6) := by first | (rw [hy139]; with_reducible exact H) | (have H2_ := (Option.bind_some _ _).symm.trans H; rw [hy139]; with_reducible exact H2_) | (have H2_ := (Option.bind_some _ _).symm.trans H; with_reducible exact H2_) | with_reducible exact H | (rw [hy139]; exact H) | exact H
       have Ny139 := yaa hy139; clear hy139; obtain ⟨⟨d5, A4⟩, A75, H⟩ := bindA H; (try dsimp only at H)
       by_cases c76 : 0 ≤ d5
       ·
        rw [if_pos c76] at H
        replace c76 := decide_eq_true c76
        by_cases c77 : d5 < (y139.length : Int)
        ·
         rw [if_pos c77] at H
         replace c77 := decide_eq_true c77
         simp only [Option.some.injEq, Prod.mk.injEq] at H
         obtain ⟨rfl, rfl, rfl, rfl, rfl, rfl⟩ := H
         go_wp2_with (first | ((with_reducible refine gc_ 67 rfl ?_); refine gl_ (some 45) rfl Tryd.func67 #[.pointer (some ⟨g, 0, none⟩), .int .i64 a1] ?_; (with_reducible refine (spec_l20Rd_odd.calls kj3 g s0_0 c0 a1 true d3 w0 _ ?side1 ?side2 A41.out).mono ?_); (case side1 => repeat (with_reducible first | exact HI0.out | apply yah | apply yai | apply yam | apply yaj | refine yab ?_ a5.out _ | refine yab ?_ a3.out _)); (case side2 => repeat (with_reducible first | exact HB.out | apply yan | apply yad | apply yao | refine yac ?_ (Aside0.out ‹_›) | refine yac ?_ (yas HI0.out))); rintro e w78 ⟨rfl, hi, hb, hk⟩; refine ⟨_, rfl, ?_⟩; replace a4 := yaa (yag hk (upB a4.out) b2.out (by simp)); replace a6 := yaa (yag hk (upB a6.out) b0.out (by simp)); replace HK := yaa (yap (by repeat (with_reducible first | exact HK.out | apply yae | apply yak | apply yaq | apply yal | refine yaf ?_ b3.out _ | refine yaf ?_ b4.out _)) hk (.inl rfl)); replace HB := yaa (hb); replace HI0 := yaa (hi); (try clear hb hk hi)) | ((with_reducible refine gc_ 37 rfl ?_); refine gl_ (some 47) rfl Tryd.func37 #[.pointer (some ⟨g, 0, none⟩), .int .i64 4] ?_; (with_reducible refine (spec_l20Rd_pick.calls kj3 g s0_0 d3 4 d6 c4 w0 _ ?side1 ?side2 A43.out).mono ?_); (case side1 => repeat (with_reducible first | exact HI0.out | apply yah | apply yai | apply yam | apply yaj | refine yab ?_ a5.out _ | refine yab ?_ a3.out _)); (case side2 => repeat (with_reducible first | exact HB.out | apply yan | apply yad | apply yao | refine yac ?_ (Aside0.out ‹_›) | refine yac ?_ (yas HI0.out))); rintro e w79 ⟨rfl, hi, hb, hk⟩; refine ⟨_, rfl, ?_⟩; replace a4 := yaa (yag hk (upB a4.out) b2.out (by simp)); replace a6 := yaa (yag hk (upB a6.out) b0.out (by simp)); replace HK := yaa (yap (by repeat (with_reducible first | exact HK.out | apply yae | apply yak | apply yaq | apply yal | refine yaf ?_ b3.out _ | refine yaf ?_ b4.out _)) hk (.inl rfl)); replace HB := yaa (hb); replace HI0 := yaa (hi); (try clear hb hk hi)) | ((with_reducible refine gd_ 72 rfl ?_); refine Kd.R_lit (Kd.int .i64) _ 3 ?hg (N := 72) ?hd (xs := ([(-1), 256] : List Int)) (inner := [.int .i64 (-1), .int .i64 256]) (ok := fun _ => True) (okp := fun _ => True) ?hr ?hp (fun _ hk => hk) trivial (Below.refl _ _) (Nat.le_refl _) (by simp) ?_; (case hd => rfl); (case hg => rfl); (case hr => first | (go_simp; done) | (go_simp; rfl)); (case hp => exact (Reps.one (show Kd.M (Kd.int .i64) _ _ _ (-1) [.int .i64 (-1)] from rfl) (Reps.one (show Kd.M (Kd.int .i64) _ _ _ 256 [.int .i64 256] from rfl) (Reps.none _ _)))); intro G4 w80 f2 hb hg_ hnew_; clear hg_ hnew_; (first | rw [← Ny139.out] at f2 | (simp only [Int.reduceToNat] at f2; rw [← Ny139.out] at f2)); have e3 := yaa (Kd.R_lower f2 (keep_size (w := w) (g := g) (row := none) (by repeat (with_reducible first | exact HK.out | apply yae | apply yak | apply yaq | apply yal | refine yaf ?_ b3.out _ | refine yaf ?_ b4.out _)))); replace a4 := yaa (blk_below (upB a4.out) hb); replace a6 := yaa (blk_below (upB a6.out) hb); replace HK := yaa (yap (by repeat (with_reducible first | exact HK.out | apply yae | apply yak | apply yaq | apply yal | refine yaf ?_ b3.out _ | refine yaf ?_ b4.out _)) (KeepBut.of_below hb g none) (.inl rfl)); replace HB := yaa (below_step (by repeat (with_reducible first | exact HB.out | apply yan | apply yad | apply yao | refine yac ?_ (Aside0.out ‹_›) | refine yac ?_ (yas HI0.out))) hb); replace HI0 := yaa (IsS89.below (by repeat (with_reducible first | exact HI0.out | apply yah | apply yai | apply yam | apply yaj | refine yab ?_ a5.out _ | refine yab ?_ a3.out _)) hb); clear hb f2) | ((with_reducible refine gc_ 37 rfl ?_); refine gl_ (some 74) rfl Tryd.func37 #[.pointer (some ⟨g, 0, none⟩), .int .i64 2] ?_; (with_reducible refine (spec_l20Rd_pick.calls kj3 g s0_0 c4 2 d5 A4 w0 _ ?side1 ?side2 A75.out).mono ?_); (case side1 => repeat (with_reducible first | exact HI0.out | apply yah | apply yai | apply yam | apply yaj | refine yab ?_ a5.out _ | refine yab ?_ a3.out _)); (case side2 => repeat (with_reducible first | exact HB.out | apply yan | apply yad | apply yao | refine yac ?_ (Aside0.out ‹_›) | refine yac ?_ (yas HI0.out))); rintro e w82 ⟨rfl, hi, hb, hk⟩; refine ⟨_, rfl, ?_⟩; replace a4 := yaa (yag hk (upB a4.out) b2.out (by simp)); replace a6 := yaa (yag hk (upB a6.out) b0.out (by simp)); replace e3 := yaa (Kd.R_mono (Kd.R_keep (IsS89.apart (show IsS89 w0 _ g s0_0 c4 from by repeat (with_reducible first | exact HI0.out | apply yah | apply yai | apply yam | apply yaj | refine yab ?_ a5.out _ | refine yab ?_ a3.out _)) (upR e3.out) (by decide)) hk (fun _ h => h.2)) (fun _ h => h.1)); replace HK := yaa (yap (by repeat (with_reducible first | exact HK.out | apply yae | apply yak | apply yaq | apply yal | refine yaf ?_ b3.out _ | refine yaf ?_ b4.out _)) hk (.inl rfl)); replace HB := yaa (hb); replace HI0 := yaa (hi); (try clear hb hk hi); obtain ⟨G5, G6, A5⟩ := Kd.R_slice e3.out; subst A5; have p144 : 0 ≤ (d5 : Int) := of_decide_eq_true (by assumption); have q144 : d5 < (y139.length : Int) := of_decide_eq_true (by assumption); obtain ⟨ad144, A6, w2⟩ := Kd.at_int (Kd.R_reads' e3.out).2.2 d5 p144 q144; cases A6; replace p144 := eq_true p144; replace q144 := eq_true q144; have E4 := b7.out; have E5 := b1.out; have E6 := b0.out; have E7 := a3.out; obtain ⟨w3, w4, w8, w9, x0⟩ := cc5_ a6.out; obtain ⟨x2, x3, x4, x5, x6⟩ := cf5_ a6.out; have E8 := b2.out; have E9 := a5.out; obtain ⟨x7, x8, x9, y8, y9⟩ := cc5_ a4.out; obtain ⟨z0, z1, z2, z3⟩ := cf4_ a4.out; have z4 := blk_frozen a4.out 4))
         refine bodyPost_ret (results_cell_row rfl _ _ b9 23 #[.int .i64 a7, .int .i64 a8, .int .i64 a9, .int .i64 (rd y139 d5), .int .i64 b6] (0, 0) _ rfl (by (repeat refine oneB ?_); refine yar (cs := #[.int .i64 a7, .int .i64 a8, .int .i64 a9, .int .i64 (rd y139 d5), .int .i64 0]) ?_ 4 _ rfl; refine yar (cs := #[.int .i64 a7, .int .i64 a8, .int .i64 a9, .int .i64 0, .int .i64 0]) ?_ 3 _ rfl; refine yar (cs := #[.int .i64 a7, .int .i64 a8, .int .i64 0, .int .i64 0, .int .i64 0]) ?_ 2 _ rfl; refine yar (cs := #[.int .i64 a7, .int .i64 0, .int .i64 0, .int .i64 0, .int .i64 0]) ?_ 1 _ rfl; refine yar (cs := #[.int .i64 0, .int .i64 0, .int .i64 0, .int .i64 0, .int .i64 0]) ?_ 0 _ rfl; (repeat refine oneB ?_); refine blk_far ?_ b1.out _; exact upB a4.out) Tryd.underlying23 rfl (by kernel_rfl)) rfl ?_
         exact ⟨by first | rfl | (simp [*, errW_none, errW_some] <;> rfl), by repeat (with_reducible first | exact HI0.out | apply yah | apply yai | apply yam | apply yaj | refine yab ?_ a5.out _ | refine yab ?_ a3.out _), by repeat (with_reducible first | exact HB.out | apply yan | apply yad | apply yao | refine yac ?_ (Aside0.out ‹_›) | refine yac ?_ (yas HI0.out)), by repeat (with_reducible first | exact HK.out | apply yae | apply yak | apply yaq | apply yal | refine yaf ?_ b3.out _ | refine yaf ?_ b4.out _)⟩
        ·
         rw [if_neg c77] at H
         exact absurd H (by simp)
       ·
        rw [if_neg c76] at H
        exact absurd H (by simp)
      ·
       rw [if_neg c74] at H
       have m9 := beq_eq_false_iff_ne.mpr c74; have n0 := bne_iff_ne.mpr c74; obtain ⟨y145, hy145⟩ : ∃ y_ : List Int, y_ = (([1, 7] : List Int)) := ⟨_, rfl⟩
       replace H : ((spec_l20Rd_pick.f kj3 s0_0 c4 2).bind fun e4 => (if 0 ≤ e4.1 then (if e4.1 < (y145.length : Int) then (some (a7, a8, a9, b5, rd y145 e4.1, e4.2)) else (none)) else (none))) = some (r1, r2, r3, r4, r5, r6) := by first | (rw [hy145]; with_reducible exact H) | (have H2_ := (Option.bind_some _ _).symm.trans H; rw [hy145]; with_reducible exact H2_) | (have H2_ := (Option.bind_some _ _).symm.trans H; with_reducible exact H2_) | with_reducible exact H | (rw [hy145]; exact H) | exact H
       have Ny145 := yaa hy145; clear hy145; obtain ⟨⟨d7, A7⟩, A89, H⟩ := bindA H; (try dsimp only at H)
       by_cases c90 : 0 ≤ d7
       ·
        rw [if_pos c90] at H
        replace c90 := decide_eq_true c90
        by_cases c91 : d7 < (y145.length : Int)
        ·
         rw [if_pos c91] at H
         replace c91 := decide_eq_true c91
         simp only [Option.some.injEq, Prod.mk.injEq] at H
         obtain ⟨rfl, rfl, rfl, rfl, rfl, rfl⟩ := H
         go_wp2_with (first | ((with_reducible refine gc_ 67 rfl ?_); refine gl_ (some 45) rfl Tryd.func67 #[.pointer (some ⟨g, 0, none⟩), .int .i64 a1] ?_; (with_reducible refine (spec_l20Rd_odd.calls kj3 g s0_0 c0 a1 true d3 w0 _ ?side1 ?side2 A41.out).mono ?_); (case side1 => repeat (with_reducible first | exact HI0.out | apply yah | apply yai | apply yam | apply yaj | refine yab ?_ a5.out _ | refine yab ?_ a3.out _)); (case side2 => repeat (with_reducible first | exact HB.out | apply yan | apply yad | apply yao | refine yac ?_ (Aside0.out ‹_›) | refine yac ?_ (yas HI0.out))); rintro e w92 ⟨rfl, hi, hb, hk⟩; refine ⟨_, rfl, ?_⟩; replace a4 := yaa (yag hk (upB a4.out) b2.out (by simp)); replace a6 := yaa (yag hk (upB a6.out) b0.out (by simp)); replace HK := yaa (yap (by repeat (with_reducible first | exact HK.out | apply yae | apply yak | apply yaq | apply yal | refine yaf ?_ b3.out _ | refine yaf ?_ b4.out _)) hk (.inl rfl)); replace HB := yaa (hb); replace HI0 := yaa (hi); (try clear hb hk hi)) | ((with_reducible refine gc_ 37 rfl ?_); refine gl_ (some 47) rfl Tryd.func37 #[.pointer (some ⟨g, 0, none⟩), .int .i64 4] ?_; (with_reducible refine (spec_l20Rd_pick.calls kj3 g s0_0 d3 4 d6 c4 w0 _ ?side1 ?side2 A43.out).mono ?_); (case side1 => repeat (with_reducible first | exact HI0.out | apply yah | apply yai | apply yam | apply yaj | refine yab ?_ a5.out _ | refine yab ?_ a3.out _)); (case side2 => repeat (with_reducible first | exact HB.out | apply yan | apply yad | apply yao | refine yac ?_ (Aside0.out ‹_›) | refine yac ?_ (yas HI0.out))); rintro e w93 ⟨rfl, hi, hb, hk⟩; refine ⟨_, rfl, ?_⟩; replace a4 := yaa (yag hk (upB a4.out) b2.out (by simp)); replace a6 := yaa (yag hk (upB a6.out) b0.out (by simp)); replace HK := yaa (yap (by repeat (with_reducible first | exact HK.out | apply yae | apply yak | apply yaq | apply yal | refine yaf ?_ b3.out _ | refine yaf ?_ b4.out _)) hk (.inl rfl)); replace HB := yaa (hb); replace HI0 := yaa (hi); (try clear hb hk hi)) | ((with_reducible refine gd_ 48 rfl ?_); refine Kd.R_lit (Kd.int .i64) _ 3 ?hg (N := 48) ?hd (xs := ([1, 7] : List Int)) (inner := [.int .i64 1, .int .i64 7]) (ok := fun _ => True) (okp := fun _ => True) ?hr ?hp (fun _ hk => hk) trivial (Below.refl _ _) (Nat.le_refl _) (by simp) ?_; (case hd => rfl); (case hg => rfl); (case hr => first | (go_simp; done) | (go_simp; rfl)); (case hp => exact (Reps.one (show Kd.M (Kd.int .i64) _ _ _ 1 [.int .i64 1] from rfl) (Reps.one (show Kd.M (Kd.int .i64) _ _ _ 7 [.int .i64 7] from rfl) (Reps.none _ _)))); intro G7 w94 f3 hb hg_ hnew_; clear hg_ hnew_; (first | rw [← Ny145.out] at f3 | (simp only [Int.reduceToNat] at f3; rw [← Ny145.out] at f3)); have e5 := yaa (Kd.R_lower f3 (keep_size (w := w) (g := g) (row := none) (by repeat (with_reducible first | exact HK.out | apply yae | apply yak | apply yaq | apply yal | refine yaf ?_ b3.out _ | refine yaf ?_ b4.out _)))); replace a4 := yaa (blk_below (upB a4.out) hb); replace a6 := yaa (blk_below (upB a6.out) hb); replace HK := yaa (yap (by repeat (with_reducible first | exact HK.out | apply yae | apply yak | apply yaq | apply yal | refine yaf ?_ b3.out _ | refine yaf ?_ b4.out _)) (KeepBut.of_below hb g none) (.inl rfl)); replace HB := yaa (below_step (by repeat (with_reducible first | exact HB.out | apply yan | apply yad | apply yao | refine yac ?_ (Aside0.out ‹_›) | refine yac ?_ (yas HI0.out))) hb); replace HI0 := yaa (IsS89.below (by repeat (with_reducible first | exact HI0.out | apply yah | apply yai | apply yam | apply yaj | refine yab ?_ a5.out _ | refine yab ?_ a3.out _)) hb); clear hb f3) | ((with_reducible refine gc_ 37 rfl ?_); refine gl_ (some 50) rfl Tryd.func37 #[.pointer (some ⟨g, 0, none⟩), .int .i64 2] ?_; (with_reducible refine (spec_l20Rd_pick.calls kj3 g s0_0 c4 2 d7 A7 w0 _ ?side1 ?side2 A89.out).mono ?_); (case side1 => repeat (with_reducible first | exact HI0.out | apply yah | apply yai | apply yam | apply yaj | refine yab ?_ a5.out _ | refine yab ?_ a3.out _)); (case side2 => repeat (with_reducible first | exact HB.out | apply yan | apply yad | apply yao | refine yac ?_ (Aside0.out ‹_›) | refine yac ?_ (yas HI0.out))); rintro e w96 ⟨rfl, hi, hb, hk⟩; refine ⟨_, rfl, ?_⟩; replace a4 := yaa (yag hk (upB a4.out) b2.out (by simp)); replace a6 := yaa (yag hk (upB a6.out) b0.out (by simp)); replace e5 := yaa (Kd.R_mono (Kd.R_keep (IsS89.apart (show IsS89 w0 _ g s0_0 c4 from by repeat (with_reducible first | exact HI0.out | apply yah | apply yai | apply yam | apply yaj | refine yab ?_ a5.out _ | refine yab ?_ a3.out _)) (upR e5.out) (by decide)) hk (fun _ h => h.2)) (fun _ h => h.1)); replace HK := yaa (yap (by repeat (with_reducible first | exact HK.out | apply yae | apply yak | apply yaq | apply yal | refine yaf ?_ b3.out _ | refine yaf ?_ b4.out _)) hk (.inl rfl)); replace HB := yaa (hb); replace HI0 := yaa (hi); (try clear hb hk hi); obtain ⟨G8, G9, A8⟩ := Kd.R_slice e5.out; subst A8; have p150 : 0 ≤ (d7 : Int) := of_decide_eq_true (by assumption); have q150 : d7 < (y145.length : Int) := of_decide_eq_true (by assumption); obtain ⟨ad150, A9, z5⟩ := Kd.at_int (Kd.R_reads' e5.out).2.2 d7 p150 q150; cases A9; replace p150 := eq_true p150; replace q150 := eq_true q150; have F0 := b7.out; have F1 := b1.out; have F2 := b0.out; have F3 := a3.out; obtain ⟨n1, n2, n3, n4, n5⟩ := cc5_ a6.out; obtain ⟨n6, n7, n8, n9, o0⟩ := cf5_ a6.out; have B0 := b2.out; have B1 := a5.out; obtain ⟨o1, o2, o3, o4, o5⟩ := cc5_ a4.out; obtain ⟨o6, o7, o8, o9⟩ := cf4_ a4.out; have p0 := blk_frozen a4.out 4))
         refine bodyPost_ret (results_cell_row rfl _ _ b9 23 #[.int .i64 a7, .int .i64 a8, .int .i64 a9, .int .i64 b5, .int .i64 (rd y145 d7)] (0, 0) _ rfl (by (repeat refine oneB ?_); refine yar (cs := #[.int .i64 a7, .int .i64 a8, .int .i64 a9, .int .i64 b5, .int .i64 0]) ?_ 4 _ rfl; refine yar (cs := #[.int .i64 a7, .int .i64 a8, .int .i64 a9, .int .i64 0, .int .i64 0]) ?_ 3 _ rfl; refine yar (cs := #[.int .i64 a7, .int .i64 a8, .int .i64 0, .int .i64 0, .int .i64 0]) ?_ 2 _ rfl; refine yar (cs := #[.int .i64 a7, .int .i64 0, .int .i64 0, .int .i64 0, .int .i64 0]) ?_ 1 _ rfl; refine yar (cs := #[.int .i64 0, .int .i64 0, .int .i64 0, .int .i64 0, .int .i64 0]) ?_ 0 _ rfl; (repeat refine oneB ?_); refine blk_far ?_ b1.out _; exact upB a4.out) Tryd.underlying23 rfl (by kernel_rfl)) rfl ?_
         exact ⟨by first | rfl | (simp [*, errW_none, errW_some] <;> rfl), by repeat (with_reducible first | exact HI0.out | apply yah | apply yai | apply yam | apply yaj | refine yab ?_ a5.out _ | refine yab ?_ a3.out _), by repeat (with_reducible first | exact HB.out | apply yan | apply yad | apply yao | refine yac ?_ (Aside0.out ‹_›) | refine yac ?_ (yas HI0.out)), by repeat (with_reducible first | exact HK.out | apply yae | apply yak | apply yaq | apply yal | refine yaf ?_ b3.out _ | refine yaf ?_ b4.out _)⟩
        ·
         rw [if_neg c91] at H
         exact absurd H (by simp)
       ·
        rw [if_neg c90] at H
        exact absurd H (by simp)
   ·
    replace c42 := Bool.eq_false_iff.mpr c42
    subst c42
    rw [if_neg (show ¬ (false = true) by decide)] at H
    simp only [Option.some.injEq, Prod.mk.injEq] at H
    obtain ⟨rfl, rfl, rfl, rfl, rfl, rfl⟩ := H
    go_wp2_with (first | ((with_reducible refine gc_ 67 rfl ?_); refine gl_ (some 45) rfl Tryd.func67 #[.pointer (some ⟨g, 0, none⟩), .int .i64 a1] ?_; (with_reducible refine (spec_l20Rd_odd.calls kj3 g s0_0 c0 a1 false d3 w0 _ ?side1 ?side2 A41.out).mono ?_); (case side1 => repeat (with_reducible first | exact HI0.out | apply yah | apply yai | apply yam | apply yaj | refine yab ?_ a5.out _ | refine yab ?_ a3.out _)); (case side2 => repeat (with_reducible first | exact HB.out | apply yan | apply yad | apply yao | refine yac ?_ (Aside0.out ‹_›) | refine yac ?_ (yas HI0.out))); rintro e w103 ⟨rfl, hi, hb, hk⟩; refine ⟨_, rfl, ?_⟩; replace a4 := yaa (yag hk (upB a4.out) b2.out (by simp)); replace a6 := yaa (yag hk (upB a6.out) b0.out (by simp)); replace HK := yaa (yap (by repeat (with_reducible first | exact HK.out | apply yae | apply yak | apply yaq | apply yal | refine yaf ?_ b3.out _ | refine yaf ?_ b4.out _)) hk (.inl rfl)); replace HB := yaa (hb); replace HI0 := yaa (hi); (try clear hb hk hi); have B2 := b7.out; have B3 := b1.out; have B4 := b0.out; have B5 := a3.out; obtain ⟨p1, p3, p4, p5, p7⟩ := cc5_ a6.out; obtain ⟨p8, p9, q0, q1, q2⟩ := cf5_ a6.out; have B6 := b2.out; have B7 := a5.out; obtain ⟨q3, q4, q5, q6, q7⟩ := cc5_ a4.out; obtain ⟨q8, q9, r0, r7⟩ := cf4_ a4.out; have r8 := blk_frozen a4.out 4))
    refine bodyPost_ret (results_cell_row rfl _ _ b9 23 #[.int .i64 a7, .int .i64 a8, .int .i64 a9, .int .i64 b5, .int .i64 b6] (0, 0) _ rfl (by (repeat refine oneB ?_); refine yar (cs := #[.int .i64 a7, .int .i64 a8, .int .i64 a9, .int .i64 b5, .int .i64 0]) ?_ 4 _ rfl; refine yar (cs := #[.int .i64 a7, .int .i64 a8, .int .i64 a9, .int .i64 0, .int .i64 0]) ?_ 3 _ rfl; refine yar (cs := #[.int .i64 a7, .int .i64 a8, .int .i64 0, .int .i64 0, .int .i64 0]) ?_ 2 _ rfl; refine yar (cs := #[.int .i64 a7, .int .i64 0, .int .i64 0, .int .i64 0, .int .i64 0]) ?_ 1 _ rfl; refine yar (cs := #[.int .i64 0, .int .i64 0, .int .i64 0, .int .i64 0, .int .i64 0]) ?_ 0 _ rfl; exact upB a4.out) Tryd.underlying23 rfl (by kernel_rfl)) rfl ?_
    exact ⟨by first | rfl | (simp [*, errW_none, errW_some] <;> rfl), by repeat (with_reducible first | exact HI0.out | apply yah | apply yai | apply yam | apply yaj | refine yab ?_ a5.out _ | refine yab ?_ a3.out _), by repeat (with_reducible first | exact HB.out | apply yan | apply yad | apply yao | refine yac ?_ (Aside0.out ‹_›) | refine yac ?_ (yas HI0.out)), by repeat (with_reducible first | exact HK.out | apply yae | apply yak | apply yaq | apply yal | refine yaf ?_ b3.out _ | refine yaf ?_ b4.out _)⟩
end
section
open Go.Proofs.YtfafjpfigphchaaDoorW.PrintWords.Aside0 renaming mk → yaa
open Go.Proofs.YtfafjpfigphchaaDoorW.PrintWords.KeepBut renaming set_ → yab, trans → yan
open Go.Proofs.YtfafjpfigphchaaDoorW.PrintWords renaming pw_below_drewN → yac, keep_drewN → yah, keep_alloc → yai, below_alloc → yaj, below_drew1 → yak, keep_drew → yal, below_set → yam
open Go.Proofs.YtfafjpfigphchaaDoor.X.IsS89 renaming alloc → yad, drewN → yae, set_1 → yaf, drew → yag

mutual
def spec_l20Ops.l0 : Nat → Int → List (S23) → Int → List Int → Int → Option ((List (S23)) × Int)
 | 0, _, _, _, _, _ => none
 | k + 1, x1, x5, x6, x1000, x1001 => if x6 > 0 then ((spec_l20Op.f k x1000 x1001 0).bind fun bt106 => (if x5.length < 3518437208883 then (spec_l20Ops.l0 k x1 (x5 ++ [(⟨bt106.1, bt106.2.1, bt106.2.2.1, bt106.2.2.2.1, bt106.2.2.2.2.1⟩ : S23)]) (wrap64 (x6 - 1)) x1000 bt106.2.2.2.2.2) else (none))) else ((spec_l20Rd_odd.f k x1000 x1001 x1).bind fun bt115 => (if bt115.1 = true then ((spec_l20Op.f k x1000 bt115.2 1).bind fun bt117 => (if x5.length < 3518437208883 then (spec_l20Ops.j1 k x1 (x5 ++ [(⟨bt117.1, bt117.2.1, bt117.2.2.1, bt117.2.2.2.1, bt117.2.2.2.2.1⟩ : S23)]) x1000 bt117.2.2.2.2.2) else (none))) else (spec_l20Ops.j1 k x1 x5 x1000 bt115.2)))
def spec_l20Ops.j1 : Nat → Int → List (S23) → List Int → Int → Option ((List (S23)) × Int)
 | 0, _, _, _, _ => none
 | k + 1, x1, x5, x1000, x1001 => (spec_l20Rd_odd.f k x1000 x1001 x1).bind fun bt126 => (if bt126.1 = true then (spec_l20Ops.l1 k x5 x1000 bt126.2) else (some (x5, bt126.2)))
def spec_l20Ops.l1 : Nat → List (S23) → List Int → Int → Option ((List (S23)) × Int)
 | 0, _, _, _ => none
 | k + 1, x5, x1000, x1001 => if (x5.length : Int) ≤ 5 then (if x5.length < 3518437208883 then (spec_l20Ops.l1 k (x5 ++ [(⟨4, 0, 0, 0, 0⟩ : S23)]) x1000 x1001) else (none)) else (some (x5, x1001))
end
def spec_l20Ops.f (k : Nat) (s0_0 : List Int) (s0_1 : Int) (a1 : Int) : Option ((List (S23)) × Int) := (spec_l20Rd_pick.f k s0_0 s0_1 6).bind fun bt104 => (spec_l20Ops.l0 k a1 (([] : List (S23))) bt104.1 s0_0 bt104.2)
set_option maxHeartbeats 8000000 in
set_option maxRecDepth 100000 in
theorem spec_l20Ops.calls (k : Nat) (g : Nat) (s0_0 : List Int) (s0_1 : Int) (a1 : Int) (r1 : List (S23)) (r2 : Int) (w0 w : World) (hI : IsS89 w0 w g s0_0 s0_1) (hB : Below w0.heap.size w0 w) (h : spec_l20Ops.f k s0_0 s0_1 a1 = some (r1, r2)) :
  Calls Tryd.prog 72 #[.pointer (some ⟨g, 0, none⟩), .int .i64 a1] w fun e w' => ∃ v0_ : Value, e = .returned (v0_) ∧ Kd.R k23 23 w' w.heap.size (fun _ => True) v0_ r1 ∧ IsS89 w0 w' g s0_0 r2 ∧ Below w0.heap.size w0 w' ∧ KeepBut w w' g none := by
 have hu23 := Tryd.underlying23; have HI0 := yaa hI; have HK := yaa (KeepBut.refl w g none); have HL := yaa hB.size; clear hI; have HW0 := yaa hB.size; have HB := yaa hB; clear hB; have H : ((spec_l20Rd_pick.f k s0_0 s0_1 6).bind fun a8 => (spec_l20Ops.l0 k a1 (([] : List (S23))) a8.1 s0_0 a8.2)) = some (r1, r2) := h; clear h; obtain ⟨y101, hy101⟩ : ∃ y_ : List (S23), y_ = (([] : List (S23))) := ⟨_, rfl⟩
 replace H : ((spec_l20Rd_pick.f k s0_0 s0_1 6).bind fun a8 => (spec_l20Ops.l0 k a1 y101 a8.1 s0_0 a8.2)) = some (r1, r2) := by first | (rw [hy101]; with_reducible exact H) | (have H2_ := (Option.bind_some _ _).symm.trans H; rw [hy101]; with_reducible exact H2_) | (have H2_ := (Option.bind_some _ _).symm.trans H; with_reducible exact H2_) | with_reducible exact H | (rw [hy101]; exact H) | exact H
 have Ny101 := yaa hy101; clear hy101; obtain ⟨⟨d6, d7⟩, A3, H⟩ := bindA H; (try dsimp only at H); have H' := yaa H; clear H
 go_enter Tryd.func72, Tryd.ntmps72
 go_wp2_with (first | ((with_reducible refine gd_ 7 rfl ?_); refine Kd.R_lit k23 _ 23 ?hg (N := 7) ?hd (xs := ([] : List (S23))) (inner := []) (ok := fun _ => True) (okp := fun _ => True) ?hr ?hp (fun _ hk => hk) trivial (Below.refl _ _) (Nat.le_refl _) (by simp) ?_; (case hd => rfl); (case hg => rfl); (case hr => first | (go_simp; done) | (go_simp; rfl)); (case hp => exact (Reps.none _ _)); intro e6 w4 ho5 hb hg_ hnew_; clear hg_ hnew_; (first | rw [← Ny101.out] at ho5 | (simp only [Int.reduceToNat] at ho5; rw [← Ny101.out] at ho5)); have b0 := yaa (Kd.R_lower ho5 (keep_size (w := w) (g := g) (row := none) (by repeat (with_reducible first | exact HK.out | apply yab | apply yah | apply yal | apply yai)))); replace HK := yaa (yan (by repeat (with_reducible first | exact HK.out | apply yab | apply yah | apply yal | apply yai)) (KeepBut.of_below hb g none) (.inl rfl)); replace HB := yaa (below_step (by repeat (with_reducible first | exact HB.out | apply yaj | apply yac | apply yak | refine yam ?_ (IsS89.ge HI0.out))) hb); replace HI0 := yaa (IsS89.below (by repeat (with_reducible first | exact HI0.out | apply yad | apply yae | apply yag | apply yaf)) hb); clear hb ho5) | ((with_reducible refine gc_ 37 rfl ?_); refine gl_ (some 9) rfl Tryd.func37 #[.pointer (some ⟨g, 0, none⟩), .int .i64 6] ?_; (with_reducible refine (spec_l20Rd_pick.calls k g s0_0 s0_1 6 d6 d7 w0 _ ?side1 ?side2 A3.out).mono ?_); (case side1 => repeat (with_reducible first | exact HI0.out | apply yad | apply yae | apply yag | apply yaf)); (case side2 => repeat (with_reducible first | exact HB.out | apply yaj | apply yac | apply yak | refine yam ?_ (IsS89.ge HI0.out))); rintro e w6 ⟨rfl, hi, hb, hk⟩; refine ⟨_, rfl, ?_⟩; replace b0 := yaa (Kd.R_mono (Kd.R_keep (IsS89.apart (show IsS89 w0 _ g s0_0 s0_1 from by repeat (with_reducible first | exact HI0.out | apply yad | apply yae | apply yag | apply yaf)) (upR b0.out) (by decide)) hk (fun _ h => h.2)) (fun _ h => h.1)); replace HK := yaa (yan (by repeat (with_reducible first | exact HK.out | apply yab | apply yah | apply yal | apply yai)) hk (.inl rfl)); replace HB := yaa (hb); replace HI0 := yaa (hi); (try clear hb hk hi)))
 (try simp only [Act.put, List.setIfInBounds_toArray, List.set_cons_zero, List.set_cons_succ])
 go_loopg [5, 6] k (fun kq v5 v6 w' => ∃ (a7 : List (S23)) (a9 : Int) (a5 : Int), v6 = .int .i64 a9 ∧ Aside0 (spec_l20Ops.l0 kq a1 a7 a9 s0_0 a5 = some (r1, r2)) ∧ Aside0 (kq ≤ k) ∧ Aside0 (Kd.R k23 23 w' w.heap.size (fun _ => True) v5 a7) ∧ Aside0 (IsS89 w0 w' g s0_0 a5) ∧ Aside0 (KeepBut w w' g none) ∧ Aside0 (Below w0.heap.size w0 w'))
 case atStart => exact ⟨(y101), (d6), (d7), (by first | rfl | (simp; done) | (simp [*]; done)), H', ⟨Nat.le_refl _⟩, ⟨by first | exact b0.out | exact upR b0.out⟩, ⟨by repeat (with_reducible first | exact HI0.out | apply yad | apply yae | apply yag | apply yaf)⟩, ⟨by repeat (with_reducible first | exact HK.out | apply yab | apply yah | apply yal | apply yai)⟩, ⟨by repeat (with_reducible first | exact HB.out | apply yaj | apply yac | apply yak | refine yam ?_ (IsS89.ge HI0.out))⟩⟩
 case round =>
  clear H'; (try clear p2); (try clear c3); obtain ⟨a7, a9, a5, rfl, HA, HK1, a3, HI0, HK, HB⟩ := hrel
  cases gk with
  | zero => exact absurd HA.out (by simp [spec_l20Ops.l0])
  | succ k1 =>
   have H := HA.out; clear HA
   simp only [spec_l20Ops.l0] at H
   by_cases c7 : a9 > 0
   ·
    rw [if_pos c7] at H
    have d3 : decide (0 < a9) = true := decide_eq_true c7; clear c7; obtain ⟨⟨b2, b3, b4, b5, b6, d4⟩, A8, H⟩ := bindA H; (try dsimp only at H)
    by_cases c9 : a7.length < 3518437208883
    ·
     rw [if_pos c9] at H
     have LMc9 := yaa c9; clear c9; obtain ⟨y112, hy112⟩ : ∃ y_ : List (S23), y_ = (a7 ++ [(⟨b2, b3, b4, b5, b6⟩ : S23)]) := ⟨_, rfl⟩
     replace H : (spec_l20Ops.l0 k1 a1 y112 (wrap64 (a9 - 1)) s0_0 d4) = some (r1, r2) := by first | (rw [hy112]; with_reducible exact H) | (have H2_ := (Option.bind_some _ _).symm.trans H; rw [hy112]; with_reducible exact H2_) | (have H2_ := (Option.bind_some _ _).symm.trans H; with_reducible exact H2_) | with_reducible exact H | (rw [hy112]; exact H) | exact H
     have Ny112 := yaa hy112; clear hy112; have H' := yaa H; clear H
     go_wp2_with (first | ((with_reducible refine gc_ 35 rfl ?_); refine gl_ (some 16) rfl Tryd.func35 #[.pointer (some ⟨g, 0, none⟩), .int .i64 0] ?_; (with_reducible refine (spec_l20Op.calls k1 g s0_0 a5 0 b2 b3 b4 b5 b6 d4 w0 _ ?side1 ?side2 A8.out).mono ?_); (case side1 => repeat (with_reducible first | exact HI0.out | apply yad | apply yae | apply yag | apply yaf)); (case side2 => repeat (with_reducible first | exact HB.out | apply yaj | apply yac | apply yak | refine yam ?_ (IsS89.ge HI0.out))); rintro e w10 ⟨rfl, hi, hb, hk⟩; refine ⟨_, rfl, ?_⟩; replace a3 := yaa (Kd.R_mono (Kd.R_keep (IsS89.apart (show IsS89 w0 _ g s0_0 a5 from by repeat (with_reducible first | exact HI0.out | apply yad | apply yae | apply yag | apply yaf)) (upR a3.out) (by decide)) hk (fun _ h => h.2)) (fun _ h => h.1)); replace HK := yaa (yan (by repeat (with_reducible first | exact HK.out | apply yab | apply yah | apply yal | apply yai)) hk (.inl rfl)); replace HB := yaa (hb); replace HI0 := yaa (hi); (try clear hb hk hi)) | ((with_reducible refine gate_builtin (b := .append) (xs := #[.tmp 14, .tmp 17]) rfl ?_); at_builtin; refine Kd.R_append k23 w.heap.size rfl (.tmp 14) (.tmp 17) 35 23 (.agg #[(.int .i64 0), (.int .i64 0), (.int .i64 0), (.int .i64 0), (.int .i64 0)]) 40 rfl Tryd.underlying35 info23 rfl (by decide) (by omega) u5 a7 (⟨b2, b3, b4, b5, b6⟩ : S23) [.int .i64 b2, .int .i64 b3, .int .i64 b4, .int .i64 b5, .int .i64 b6] (fun _ => True) (fun _ => False) rfl rfl ?aP (fun _ hk => hk.elim) ?aF ?aO (Below.refl _ _) ?aS ?aL ?_; (case aP => exact k23_mkM _ _ _ (⟨b2, b3, b4, b5, b6⟩ : S23)); (case aF => exact (fun _ _ => trivial)); (case aO => exact (upR a3.out)); (case aS => exact (keep_size (w := w) (g := g) (row := none) (by repeat (with_reducible first | exact HK.out | apply yab | apply yah | apply yal | apply yai)))); (case aL => have := LMc9.out; omega); intro e7 w11 ho hb hg hat; rw [← Ny112.out] at ho; replace HB := yaa (below_weaken (by repeat (with_reducible first | exact HB.out | apply yaj | apply yac | apply yak | refine yam ?_ (IsS89.ge HI0.out))) HL.out hb); replace HI0 := yaa (IsS89.grown (by repeat (with_reducible first | exact HI0.out | apply yad | apply yae | apply yag | apply yaf)) hg (IsS89.own_ne HI0.out a3.out (by decide))); replace HK := yaa (yan (by repeat (with_reducible first | exact HK.out | apply yab | apply yah | apply yal | apply yai)) (KeepBut.of_grown hg g) (Kd.R_base2 a3.out)); have d0 := yaa (ho); clear a3; clear ho hb hg hat))
     go_roundg k1
     case measure => have := HK1.out; omega
     case rel => exact ⟨(y112), (wrap64 (a9 - 1)), (d4), (by first | rfl | (simp; done) | (simp [*]; done)), H', ⟨by have := HK1.out; omega⟩, ⟨by first | exact d0.out | exact upR d0.out⟩, ⟨by repeat (with_reducible first | exact HI0.out | apply yad | apply yae | apply yag | apply yaf)⟩, ⟨by repeat (with_reducible first | exact HK.out | apply yab | apply yah | apply yal | apply yai)⟩, ⟨by repeat (with_reducible first | exact HB.out | apply yaj | apply yac | apply yak | refine yam ?_ (IsS89.ge HI0.out))⟩⟩
    ·
     rw [if_neg c9] at H
     exact absurd H (by simp)
   ·
    rw [if_neg c7] at H
    have d3 : decide (0 < a9) = false := decide_eq_false c7; clear c7; obtain ⟨⟨d8, c8⟩, A12, H⟩ := bindA H; (try dsimp only at H); have HC13 := yaa H; clear H
    go_upto_if 21 with (first | ((with_reducible refine gc_ 67 rfl ?_); refine gl_ (some 21) rfl Tryd.func67 #[.pointer (some ⟨g, 0, none⟩), .int .i64 a1] ?_; (with_reducible refine (spec_l20Rd_odd.calls k1 g s0_0 a5 a1 d8 c8 w0 _ ?side1 ?side2 A12.out).mono ?_); (case side1 => repeat (with_reducible first | exact HI0.out | apply yad | apply yae | apply yag | apply yaf)); (case side2 => repeat (with_reducible first | exact HB.out | apply yaj | apply yac | apply yak | refine yam ?_ (IsS89.ge HI0.out))); rintro e w14 ⟨rfl, hi, hb, hk⟩; refine ⟨_, rfl, ?_⟩; replace a3 := yaa (Kd.R_mono (Kd.R_keep (IsS89.apart (show IsS89 w0 _ g s0_0 a5 from by repeat (with_reducible first | exact HI0.out | apply yad | apply yae | apply yag | apply yaf)) (upR a3.out) (by decide)) hk (fun _ h => h.2)) (fun _ h => h.1)); replace HK := yaa (yan (by repeat (with_reducible first | exact HK.out | apply yab | apply yah | apply yal | apply yai)) hk (.inl rfl)); replace HB := yaa (hb); replace HI0 := yaa (hi); (try clear hb hk hi)))
    (try simp only [Act.put, List.setIfInBounds_toArray, List.set_cons_zero, List.set_cons_succ])
    go_cut [5] (fun v5 wc => ∃ (kq : Nat) (b1 : List (S23)) (a4 : Int), Aside0 (spec_l20Ops.j1 kq a1 b1 s0_0 a4 = some (r1, r2)) ∧ Aside0 (kq ≤ k1) ∧ Aside0 (Kd.R k23 23 wc w.heap.size (fun _ => True) v5 b1) ∧ Aside0 (IsS89 w0 wc g s0_0 a4) ∧ Aside0 (KeepBut w wc g none) ∧ Aside0 (Below w0.heap.size w0 wc))
    case first =>
     have H := HC13.out; clear HC13
     by_cases c15 : d8 = true
     ·
      subst c15
      rw [if_pos rfl] at H
      obtain ⟨⟨b7, b8, b9, c0, c4, d5⟩, A16, H⟩ := bindA H; (try dsimp only at H)
      by_cases c17 : a7.length < 3518437208883
      ·
       rw [if_pos c17] at H
       have LMc17 := yaa c17; clear c17; obtain ⟨y123, hy123⟩ : ∃ y_ : List (S23), y_ = (a7 ++ [(⟨b7, b8, b9, c0, c4⟩ : S23)]) := ⟨_, rfl⟩
       replace H : (spec_l20Ops.j1 k1 a1 y123 s0_0 d5) = some (r1, r2) := by first | (rw [hy123]; with_reducible exact H) | (have H2_ := (Option.bind_some _ _).symm.trans H; rw [hy123]; with_reducible exact H2_) | (have H2_ := (Option.bind_some _ _).symm.trans H; with_reducible exact H2_) | with_reducible exact H | (rw [hy123]; exact H) | exact H
       have Ny123 := yaa hy123; clear hy123; have H' := yaa H; clear H
       go_wp2_with (first | ((with_reducible refine gc_ 35 rfl ?_); refine gl_ (some 24) rfl Tryd.func35 #[.pointer (some ⟨g, 0, none⟩), .int .i64 1] ?_; (with_reducible refine (spec_l20Op.calls k1 g s0_0 c8 1 b7 b8 b9 c0 c4 d5 w0 _ ?side1 ?side2 A16.out).mono ?_); (case side1 => repeat (with_reducible first | exact HI0.out | apply yad | apply yae | apply yag | apply yaf)); (case side2 => repeat (with_reducible first | exact HB.out | apply yaj | apply yac | apply yak | refine yam ?_ (IsS89.ge HI0.out))); rintro e w18 ⟨rfl, hi, hb, hk⟩; refine ⟨_, rfl, ?_⟩; replace a3 := yaa (Kd.R_mono (Kd.R_keep (IsS89.apart (show IsS89 w0 _ g s0_0 c8 from by repeat (with_reducible first | exact HI0.out | apply yad | apply yae | apply yag | apply yaf)) (upR a3.out) (by decide)) hk (fun _ h => h.2)) (fun _ h => h.1)); replace HK := yaa (yan (by repeat (with_reducible first | exact HK.out | apply yab | apply yah | apply yal | apply yai)) hk (.inl rfl)); replace HB := yaa (hb); replace HI0 := yaa (hi); (try clear hb hk hi)) | ((with_reducible refine gate_builtin (b := .append) (xs := #[.tmp 22, .tmp 25]) rfl ?_); at_builtin; refine Kd.R_append k23 w.heap.size rfl (.tmp 22) (.tmp 25) 35 23 (.agg #[(.int .i64 0), (.int .i64 0), (.int .i64 0), (.int .i64 0), (.int .i64 0)]) 40 rfl Tryd.underlying35 info23 rfl (by decide) (by omega) u5 a7 (⟨b7, b8, b9, c0, c4⟩ : S23) [.int .i64 b7, .int .i64 b8, .int .i64 b9, .int .i64 c0, .int .i64 c4] (fun _ => True) (fun _ => False) rfl rfl ?aP (fun _ hk => hk.elim) ?aF ?aO (Below.refl _ _) ?aS ?aL ?_; (case aP => exact k23_mkM _ _ _ (⟨b7, b8, b9, c0, c4⟩ : S23)); (case aF => exact (fun _ _ => trivial)); (case aO => exact (upR a3.out)); (case aS => exact (keep_size (w := w) (g := g) (row := none) (by repeat (with_reducible first | exact HK.out | apply yab | apply yah | apply yal | apply yai)))); (case aL => have := LMc17.out; omega); intro e8 w19 ho hb hg hat; rw [← Ny123.out] at ho; replace HB := yaa (below_weaken (by repeat (with_reducible first | exact HB.out | apply yaj | apply yac | apply yak | refine yam ?_ (IsS89.ge HI0.out))) HL.out hb); replace HI0 := yaa (IsS89.grown (by repeat (with_reducible first | exact HI0.out | apply yad | apply yae | apply yag | apply yaf)) hg (IsS89.own_ne HI0.out a3.out (by decide))); replace HK := yaa (yan (by repeat (with_reducible first | exact HK.out | apply yab | apply yah | apply yal | apply yai)) (KeepBut.of_grown hg g) (Kd.R_base2 a3.out)); have d1 := yaa (ho); clear a3; clear ho hb hg hat))
       go_meet
       case rel => exact ⟨_, (y123), (d5), H', ⟨by have := HK1.out; first | omega | exact Nat.le_refl _⟩, ⟨by first | exact d1.out | exact upR d1.out⟩, ⟨by repeat (with_reducible first | exact HI0.out | apply yad | apply yae | apply yag | apply yaf)⟩, ⟨by repeat (with_reducible first | exact HK.out | apply yab | apply yah | apply yal | apply yai)⟩, ⟨by repeat (with_reducible first | exact HB.out | apply yaj | apply yac | apply yak | refine yam ?_ (IsS89.ge HI0.out))⟩⟩
      ·
       rw [if_neg c17] at H
       exact absurd H (by simp)
     ·
      replace c15 := Bool.eq_false_iff.mpr c15
      subst c15
      rw [if_neg (show ¬ (false = true) by decide)] at H
      have H' := yaa H; clear H
      go_wp2
      go_meet
      case rel => exact ⟨_, (a7), (c8), H', ⟨by have := HK1.out; first | omega | exact Nat.le_refl _⟩, ⟨by first | exact a3.out | exact upR a3.out⟩, ⟨by repeat (with_reducible first | exact HI0.out | apply yad | apply yae | apply yag | apply yaf)⟩, ⟨by repeat (with_reducible first | exact HK.out | apply yab | apply yah | apply yal | apply yai)⟩, ⟨by repeat (with_reducible first | exact HB.out | apply yaj | apply yac | apply yak | refine yam ?_ (IsS89.ge HI0.out))⟩⟩
    case rest =>
     clear HC13; (try clear c1); (try clear p2); (try clear c3); (try clear c6); (try clear p6); (try clear c7); (try clear d3); (try clear c9); (try clear c15); (try clear c17); (try clear p2); obtain ⟨kq, b1, a4, HA, HJ12, a3, HI0, HK, HB⟩ := hcut
     cases kq with
     | zero => exact absurd HA.out (by simp [spec_l20Ops.j1])
     | succ kj12 =>
      have H := HA.out; clear HA
      simp only [spec_l20Ops.j1] at H
      obtain ⟨⟨e1, c5⟩, A20, H⟩ := bindA H; (try dsimp only at H)
      by_cases c21 : e1 = true
      ·
       subst c21
       rw [if_pos rfl] at H
       have H' := yaa H; clear H
       go_wp2_with (first | ((with_reducible refine gc_ 67 rfl ?_); refine gl_ (some 29) rfl Tryd.func67 #[.pointer (some ⟨g, 0, none⟩), .int .i64 a1] ?_; (with_reducible refine (spec_l20Rd_odd.calls kj12 g s0_0 a4 a1 true c5 w0 _ ?side1 ?side2 A20.out).mono ?_); (case side1 => repeat (with_reducible first | exact HI0.out | apply yad | apply yae | apply yag | apply yaf)); (case side2 => repeat (with_reducible first | exact HB.out | apply yaj | apply yac | apply yak | refine yam ?_ (IsS89.ge HI0.out))); rintro e w22 ⟨rfl, hi, hb, hk⟩; refine ⟨_, rfl, ?_⟩; replace a3 := yaa (Kd.R_mono (Kd.R_keep (IsS89.apart (show IsS89 w0 _ g s0_0 a4 from by repeat (with_reducible first | exact HI0.out | apply yad | apply yae | apply yag | apply yaf)) (upR a3.out) (by decide)) hk (fun _ h => h.2)) (fun _ h => h.1)); replace HK := yaa (yan (by repeat (with_reducible first | exact HK.out | apply yab | apply yah | apply yal | apply yai)) hk (.inl rfl)); replace HB := yaa (hb); replace HI0 := yaa (hi); (try clear hb hk hi)))
       (try simp only [Act.put, List.setIfInBounds_toArray, List.set_cons_zero, List.set_cons_succ])
       go_loopg [5] kj12 (fun kq v5 w' => ∃ (a6 : List (S23)), Aside0 (spec_l20Ops.l1 kq a6 s0_0 c5 = some (r1, r2)) ∧ Aside0 (kq ≤ kj12) ∧ Aside0 (Kd.R k23 23 w' w.heap.size (fun _ => True) v5 a6) ∧ Aside0 (IsS89 w0 w' g s0_0 c5) ∧ Aside0 (KeepBut w w' g none) ∧ Aside0 (Below w0.heap.size w0 w'))
       case atStart => exact ⟨(b1), H', ⟨Nat.le_refl _⟩, ⟨by first | exact a3.out | exact upR a3.out⟩, ⟨by repeat (with_reducible first | exact HI0.out | apply yad | apply yae | apply yag | apply yaf)⟩, ⟨by repeat (with_reducible first | exact HK.out | apply yab | apply yah | apply yal | apply yai)⟩, ⟨by repeat (with_reducible first | exact HB.out | apply yaj | apply yac | apply yak | refine yam ?_ (IsS89.ge HI0.out))⟩⟩
       case round =>
        clear H'; (try clear c1); (try clear c2); (try clear p2); (try clear c3); (try clear c6); (try clear p6); (try clear c7); (try clear d3); (try clear c9); (try clear c15); (try clear c17); (try clear c21); (try clear p2); (try clear p6); obtain ⟨a6, HA, HK3, a3, HI0, HK, HB⟩ := hrel
        cases gk with
        | zero => exact absurd HA.out (by simp [spec_l20Ops.l1])
        | succ k3 =>
         have H := HA.out; clear HA
         simp only [spec_l20Ops.l1] at H
         by_cases c23 : (a6.length : Int) ≤ 5
         ·
          rw [if_pos c23] at H
          have d9 : decide ((a6.length : Int) ≤ 5) = true := decide_eq_true c23; have e0 : decide (a6.length ≤ 5) = true := decide_eq_true (by omega); clear c23
          by_cases c24 : a6.length < 3518437208883
          ·
           rw [if_pos c24] at H
           have LMc24 := yaa c24; clear c24; obtain ⟨y128, hy128⟩ : ∃ y_ : List (S23), y_ = (a6 ++ [(⟨4, 0, 0, 0, 0⟩ : S23)]) := ⟨_, rfl⟩
           replace H : (spec_l20Ops.l1 k3 y128 s0_0 c5) = some (r1, r2) := by first | (rw [hy128]; with_reducible exact H) | (have H2_ := (Option.bind_some _ _).symm.trans H; rw [hy128]; with_reducible exact H2_) | (have H2_ := (Option.bind_some _ _).symm.trans H; with_reducible exact H2_) | with_reducible exact H | (rw [hy128]; exact H) | exact H
           have Ny128 := yaa hy128; clear hy128; have H' := yaa H; clear H; obtain ⟨e2, e3, e4⟩ := Kd.R_slice a3.out; subst e4
           go_wp2_with (first | ((with_reducible refine gate_builtin (b := .append) (xs := #[.tmp 33, .tmp 35]) rfl ?_); at_builtin; refine Kd.R_append k23 w.heap.size rfl (.tmp 33) (.tmp 35) 35 23 (.agg #[(.int .i64 0), (.int .i64 0), (.int .i64 0), (.int .i64 0), (.int .i64 0)]) 40 rfl Tryd.underlying35 info23 rfl (by decide) (by omega) (.slice e2 a6.length e3) a6 (⟨4, 0, 0, 0, 0⟩ : S23) [.int .i64 4, .int .i64 0, .int .i64 0, .int .i64 0, .int .i64 0] (fun _ => True) (fun _ => False) rfl rfl ?aP (fun _ hk => hk.elim) ?aF ?aO (Below.refl _ _) ?aS ?aL ?_; (case aP => exact k23_mkM _ _ _ (⟨4, 0, 0, 0, 0⟩ : S23)); (case aF => exact (fun _ _ => trivial)); (case aO => exact (upR a3.out)); (case aS => exact (keep_size (w := w) (g := g) (row := none) (by repeat (with_reducible first | exact HK.out | apply yab | apply yah | apply yal | apply yai)))); (case aL => have := LMc24.out; omega); intro e9 w26 ho hb hg hat; rw [← Ny128.out] at ho; replace HB := yaa (below_weaken (by repeat (with_reducible first | exact HB.out | apply yaj | apply yac | apply yak | refine yam ?_ (IsS89.ge HI0.out))) HL.out hb); replace HI0 := yaa (IsS89.grown (by repeat (with_reducible first | exact HI0.out | apply yad | apply yae | apply yag | apply yaf)) hg (IsS89.own_ne HI0.out a3.out (by decide))); replace HK := yaa (yan (by repeat (with_reducible first | exact HK.out | apply yab | apply yah | apply yal | apply yai)) (KeepBut.of_grown hg g) (Kd.R_base2 a3.out)); have d2 := yaa (ho); clear a3; clear ho hb hg hat))
           go_roundg k3
           case measure => have := HK1.out; have := HJ12.out; have := HK3.out; omega
           case rel => exact ⟨(y128), H', ⟨by have := HK1.out; have := HJ12.out; have := HK3.out; omega⟩, ⟨by first | exact d2.out | exact upR d2.out⟩, ⟨by repeat (with_reducible first | exact HI0.out | apply yad | apply yae | apply yag | apply yaf)⟩, ⟨by repeat (with_reducible first | exact HK.out | apply yab | apply yah | apply yal | apply yai)⟩, ⟨by repeat (with_reducible first | exact HB.out | apply yaj | apply yac | apply yak | refine yam ?_ (IsS89.ge HI0.out))⟩⟩
          ·
           rw [if_neg c24] at H
           exact absurd H (by simp)
         ·
          rw [if_neg c23] at H
          have d9 : decide ((a6.length : Int) ≤ 5) = false := decide_eq_false c23; have e0 : decide (a6.length ≤ 5) = false := decide_eq_false (by omega); clear c23
          simp only [Option.some.injEq, Prod.mk.injEq] at H
          obtain ⟨rfl, rfl⟩ := H; obtain ⟨f0, f1, e5⟩ := Kd.R_slice a3.out; subst e5
          go_wp2
          go_ret
          exact ⟨_, by first | rfl | (simp [*, errW_none, errW_some] <;> rfl), by first | exact a3.out | exact upR a3.out, by repeat (with_reducible first | exact HI0.out | apply yad | apply yae | apply yag | apply yaf), by repeat (with_reducible first | exact HB.out | apply yaj | apply yac | apply yak | refine yam ?_ (IsS89.ge HI0.out)), by repeat (with_reducible first | exact HK.out | apply yab | apply yah | apply yal | apply yai)⟩
      ·
       replace c21 := Bool.eq_false_iff.mpr c21
       subst c21
       rw [if_neg (show ¬ (false = true) by decide)] at H
       simp only [Option.some.injEq, Prod.mk.injEq] at H
       obtain ⟨rfl, rfl⟩ := H
       go_wp2_with (first | ((with_reducible refine gc_ 67 rfl ?_); refine gl_ (some 29) rfl Tryd.func67 #[.pointer (some ⟨g, 0, none⟩), .int .i64 a1] ?_; (with_reducible refine (spec_l20Rd_odd.calls kj12 g s0_0 a4 a1 false c5 w0 _ ?side1 ?side2 A20.out).mono ?_); (case side1 => repeat (with_reducible first | exact HI0.out | apply yad | apply yae | apply yag | apply yaf)); (case side2 => repeat (with_reducible first | exact HB.out | apply yaj | apply yac | apply yak | refine yam ?_ (IsS89.ge HI0.out))); rintro e w28 ⟨rfl, hi, hb, hk⟩; refine ⟨_, rfl, ?_⟩; replace a3 := yaa (Kd.R_mono (Kd.R_keep (IsS89.apart (show IsS89 w0 _ g s0_0 a4 from by repeat (with_reducible first | exact HI0.out | apply yad | apply yae | apply yag | apply yaf)) (upR a3.out) (by decide)) hk (fun _ h => h.2)) (fun _ h => h.1)); replace HK := yaa (yan (by repeat (with_reducible first | exact HK.out | apply yab | apply yah | apply yal | apply yai)) hk (.inl rfl)); replace HB := yaa (hb); replace HI0 := yaa (hi); (try clear hb hk hi)))
       go_ret
       exact ⟨_, by first | rfl | (simp [*, errW_none, errW_some] <;> rfl), by first | exact a3.out | exact upR a3.out, by repeat (with_reducible first | exact HI0.out | apply yad | apply yae | apply yag | apply yaf), by repeat (with_reducible first | exact HB.out | apply yaj | apply yac | apply yak | refine yam ?_ (IsS89.ge HI0.out)), by repeat (with_reducible first | exact HK.out | apply yab | apply yah | apply yal | apply yai)⟩
end
end Go.Proofs.YtfafjpfigphchaaDoor.X
