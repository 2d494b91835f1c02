/- Lemmas and contracts for the law FnOpSize, part 6: of the program's functions, and over data alone. No condition. -/
import Derived.Test.YtoifpgkfpdeglaaMFnOpSize2
import Derived.Test.YtoifpgkfpdeglaaMFnOpSize3
import Derived.Test.YtoifpgkfpdeglaaMFnOpSize4
import Derived.Test.YtoifpgkfpdeglaaMFnOpSize5
namespace Go.Proofs.Ytoifpgkfpdeglaa.X
open Go.RowKit Go.Proofs.YtoifpgkfpdeglaaW.PrintWords Go.Proofs.YtoifpgkfpdeglaaW.PrintLast Go.Proofs.YtoifpgkfpdeglaaW.PrintMore
attribute [local go_sem] max2_int min2_int max_two min_two max_three min_three max_four min_four
set_option linter.unusedVariables false
set_option linter.unusedSimpArgs false

attribute [local go_sem high] eqA36
open Go.Proofs.YtoifpgkfpdeglaaW.PrintWords.Aside0 renaming mk → yaa
open Go.Proofs.YtoifpgkfpdeglaaW.PrintWords.Kd renaming Q_types → yab, Q_apart' → yag, Q_far → yah, R_typed → yaj, Q_below → yak, V_mono → yal, R_alloc → yap, R_drewN → yaq, R_below → yas, V_far → yat, V_alloc → yau, V_drewN → yav, R_far → yaw, V_drew → yax, Q_drew → yay, freshB → yaz, R_drew → yba, V_below → ybd, Q_mono → ybg, Q_alloc → ybi, Q_drewN → ybj, R_mono → ybk, R_reads' → ybl, V_reads' → ybm
open Go.Proofs.YtoifpgkfpdeglaaW.PrintWords renaming blk_below → yac, pw_below_drewN → yad, below_drew1 → yae, below_alloc → yaf, below_set → yai, blk_put → yam, below_step → yan, blk_far → yao, Aside0 → ybb, below_size → ybc, blk_cell → ybh
open Go.Proofs.YtoifpgkfpdeglaaW.PrintLast renaming putSel_on → yar, steps_cons → ybe, putSel_upk → ybf

/-! ### laws_FnOpSize: function 4 -/
abbrev q4_0 : Array Bool := #[false, false, false, false, false, false, false, false, false, false, false, false, false, false, false]
abbrev q4_1 : Array Bool := #[true, false, false, false, false, false, false, false, false, false, false, false, false, false, false]
abbrev q4_2 : Array Bool := #[true, true, false, false, false, false, false, false, false, false, false, false, false, false, false]
abbrev q4_3 : Array Bool := #[true, true, true, false, false, false, false, false, false, false, false, false, false, false, false]
abbrev q4_4 : Array Bool := #[true, true, true, true, false, false, false, false, false, false, false, false, false, false, false]
abbrev q4_5 : Array Bool := #[true, true, true, true, true, false, false, false, false, false, false, false, false, false, false]
abbrev q4_6 : Array Bool := #[true, true, true, true, true, true, false, false, false, false, false, false, false, false, false]
abbrev q4_7 : Array Bool := #[true, true, true, true, true, true, true, false, false, false, false, false, false, false, false]
abbrev q4_8 : Array Bool := #[true, true, true, true, true, true, true, true, false, false, false, false, false, false, false]
abbrev q4_9 : Array Bool := #[true, true, true, true, true, true, true, true, true, false, false, false, false, false, false]
abbrev q4_10 : Array Bool := #[true, true, true, true, true, true, true, true, true, true, false, false, false, false, false]
abbrev q4_11 : Array Bool := #[true, true, true, true, true, true, true, true, true, true, true, false, false, false, false]
abbrev q4_12 : Array Bool := #[true, true, true, true, true, true, true, true, true, true, true, true, false, false, false]
abbrev q4_13 : Array Bool := #[true, true, true, true, true, true, true, true, true, true, true, true, true, false, false]
abbrev q4_14 : Array Bool := #[true, true, true, true, true, true, true, true, true, true, true, true, true, true, false]
abbrev q4_15 : Array Bool := #[true, true, true, true, true, true, true, true, true, true, true, true, true, true, true]
abbrev q4_16 : Array Bool := #[true, true, true, false, true, false, false, false, false, false, false, false, false, false, false]
abbrev q4_17 : Array Bool := #[true, true, true, false, true, false, false, true, false, false, false, false, false, false, false]
abbrev q4_18 : Array Bool := #[true, true, true, false, true, false, false, true, false, true, false, false, false, false, false]
abbrev q4_19 : Array Bool := #[true, true, true, true, true, false, false, true, false, true, false, false, false, false, false]
abbrev q4_20 : Array Bool := #[true, true, true, true, true, true, false, true, false, true, false, false, false, false, false]
abbrev q4_21 : Array Bool := #[true, true, true, true, true, true, true, true, false, true, false, false, false, false, false]
abbrev q4_22 : Array Bool := #[false, false, false, false, false, false, false, false, false, false, false, false, false, false, false, false, false, false, false]
mutual
def laws_FnOpSize.j0 : Nat → List Int → List Int → Bool → Option (Bool)
 | 0, _, _, _ => none
 | k + 1, x0, x1, x23 => if x23 = true then (some true) else ((spec_DrawOpDo.f k x0).bind fun bt101 => ((spec_RasOk.f k bt101.1 bt101.2.1 bt101.2.2.1).bind fun t113 => (if t113 = true then ((laws_eaDo.f k bt101.1 bt101.2.1 bt101.2.2.1 (([(⟨7, 1 + ((x1.length : Int) % 6), wrap64 (1 + (Int.tmod (wrap64 ((x1.length : Int) / 7)) 6)), 0, 0⟩ : S27)] : List (S27)))).bind fun bt120 => ((spec_OpDo.f k bt101.1 bt101.2.1 bt101.2.2.1 7 (1 + ((x1.length : Int) % 6)) (wrap64 (1 + (Int.tmod (wrap64 ((x1.length : Int) / 7)) 6))) 0 0).bind fun bt126 => ((laws_eaRas.f k bt120.1 bt120.2.1 bt120.2.2 bt126.1 bt126.2.1 bt126.2.2.1).bind fun t133 => (if t133 = true then (if bt120.1 = (1 + ((x1.length : Int) % 6)) then (laws_FnOpSize.j1 k (bt120.2.1 != (wrap64 (1 + (Int.tmod (wrap64 ((x1.length : Int) / 7)) 6)))) bt101.1 bt101.2.1 bt101.2.2.1 7 (1 + ((x1.length : Int) % 6)) (wrap64 (1 + (Int.tmod (wrap64 ((x1.length : Int) / 7)) 6))) 0 0 bt120.1 bt120.2.1 bt120.2.2) else (laws_FnOpSize.j1 k true bt101.1 bt101.2.1 bt101.2.2.1 7 (1 + ((x1.length : Int) % 6)) (wrap64 (1 + (Int.tmod (wrap64 ((x1.length : Int) / 7)) 6))) 0 0 bt120.1 bt120.2.1 bt120.2.2)) else (laws_FnOpSize.j1 k true bt101.1 bt101.2.1 bt101.2.2.1 7 (1 + ((x1.length : Int) % 6)) (wrap64 (1 + (Int.tmod (wrap64 ((x1.length : Int) / 7)) 6))) 0 0 bt120.1 bt120.2.1 bt120.2.2))))) else ((impl_RasOk.f k bt101.1 bt101.2.1 bt101.2.2.1).bind fun t114 => (if t114 = true then (some false) else ((laws_eaOk.f).bind fun t115 => (some t115)))))))
def laws_FnOpSize.j1 : Nat → Bool → Int → Int → List (S36) → Int → Int → Int → Int → Int → Int → Int → List (S36) → Option (Bool)
 | 0, _, _, _, _, _, _, _, _, _, _, _, _ => none
 | k + 1, x75, x112000, x112001, x112002, x117000, x117001, x117002, x117003, x117004, x126000, x126001, x126002 => if x75 = true then (some false) else (laws_FnOpSize.l0 k 0 x112000 x112001 x112002 x117000 x117001 x117002 x117003 x117004 x126000 x126001 x126002)
def laws_FnOpSize.l0 : Nat → Int → Int → Int → List (S36) → Int → Int → Int → Int → Int → Int → Int → List (S36) → Option (Bool)
 | 0, _, _, _, _, _, _, _, _, _, _, _, _ => none
 | k + 1, x11, x112000, x112001, x112002, x117000, x117001, x117002, x117003, x117004, x126000, x126001, x126002 => if x11 < (x126002.length : Int) then (laws_FnOpSize.l1 k x11 false 0 x112000 x112001 x112002 x117000 x117001 x117002 x117003 x117004 x126000 x126001 x126002) else ((laws_eaDo.f k x112000 x112001 x112002 (([(⟨7, x112000, x112001, 0, 0⟩ : S27)] : List (S27)))).bind fun bt141 => ((laws_eaRas.f k bt141.1 bt141.2.1 bt141.2.2 x112000 x112001 x112002).bind fun t146 => (if t146 = true then ((laws_eaDo.f k x126000 x126001 x126002 (([(⟨5, 0, 0, 0, 0⟩ : S27)] : List (S27)))).bind fun bt150 => ((laws_eaDo.f k x112000 x112001 x112002 (([(⟨5, 0, 0, 0, 0⟩ : S27), (⟨x117000, x117001, x117002, x117003, x117004⟩ : S27)] : List (S27)))).bind fun bt158 => ((laws_eaRas.f k bt150.1 bt150.2.1 bt150.2.2 bt158.1 bt158.2.1 bt158.2.2).bind fun t163 => (some t163)))) else (some false))))
def laws_FnOpSize.l1 : Nat → Int → Bool → Int → Int → Int → List (S36) → Int → Int → Int → Int → Int → Int → Int → List (S36) → Option (Bool)
 | 0, _, _, _, _, _, _, _, _, _, _, _, _, _, _ => none
 | k + 1, x11, x12, x13, x112000, x112001, x112002, x117000, x117001, x117002, x117003, x117004, x126000, x126001, x126002 => if x13 < (x112002.length : Int) then (if x12 = true then (laws_FnOpSize.l1 k x11 true (wrap64 (x13 + 1)) x112000 x112001 x112002 x117000 x117001 x117002 x117003 x117004 x126000 x126001 x126002) else (if 0 ≤ x13 then (if 0 ≤ x11 then (if x11 < (x126002.length : Int) then (laws_FnOpSize.l1 k x11 (((rd_T36 x112002 x13).f0) == ((rd_T36 x126002 x11).f0) && (((rd_T36 x112002 x13).f1) == ((rd_T36 x126002 x11).f1) && (((rd_T36 x112002 x13).f2) == ((rd_T36 x126002 x11).f2) && (((rd_T36 x112002 x13).f3) == ((rd_T36 x126002 x11).f3))))) (wrap64 (x13 + 1)) x112000 x112001 x112002 x117000 x117001 x117002 x117003 x117004 x126000 x126001 x126002) else (none)) else (none)) else (none))) else (if x12 = true then (laws_FnOpSize.l0 k (wrap64 (x11 + 1)) x112000 x112001 x112002 x117000 x117001 x117002 x117003 x117004 x126000 x126001 x126002) else (some false))
end
def laws_FnOpSize.f (k : Nat) (l0 : List Int) (l1 : List Int) : Option (Bool) := if (l0.length : Int) > 1048576 then (laws_FnOpSize.j0 k l0 l1 true) else (laws_FnOpSize.j0 k l0 l1 (decide ((l1.length : Int) > 1048576)))
def laws_FnOpSize.T18 : Bool × List (List Nat × List Nat) := (true, [([], []), ([0], [0]), ([1], [1]), ([2, 1], [1, 2]), ([1], [1]), ([3, 4, 1], [1, 3, 4]), ([5, 1], [1, 5]), ([1], [1]), ([7, 1], [1, 7]), ([1], [1]), ([8, 9, 1], [1, 8, 9]), ([10, 1], [1, 10]), ([6, 11, 1], [1, 6, 11]), ([1, 12], [1, 12]), ([13, 1, 0, 1, 2, 3, 4, 5, 6, 7, 8, 9, 10, 11, 12, 13], [0, 13])])
def laws_FnOpSize.B18 : List Nat := [0, 1, 3, 7, 3, 31, 63, 3, 131, 3, 899, 1923, 4095, 8191, 16383]
theorem laws_FnOpSize.tab18 : rtab .any (opsOf Try.f4 18) = laws_FnOpSize.T18 := by kernel_rfl
theorem laws_FnOpSize.bits18 : waitsOk laws_FnOpSize.T18.2 laws_FnOpSize.B18 = true := by kernel_rfl
def laws_FnOpSize.T23 : Bool × List (List Nat × List Nat) := (true, [([], []), ([], []), ([1], [1]), ([0, 2], [0, 2]), ([], []), ([3, 4, 3], [3, 4]), ([5, 5], [5]), ([6], [6]), ([6], [6]), ([8, 6], [6, 8]), ([7, 9, 6, 6], [6, 7, 9]), ([6], [6]), ([6], [6]), ([6], [6]), ([12, 13, 6], [6, 12, 13]), ([11, 14, 10, 6], [6, 11, 14]), ([10, 15, 15, 6], [6, 10, 15]), ([6, 16], [6, 16]), ([17, 16, 0, 1, 2, 3, 4, 5, 6, 7, 8, 9, 10, 11, 12, 13, 14, 15, 16, 17], [17])])
def laws_FnOpSize.B23 : List Nat := [0, 0, 2, 7, 0, 31, 63, 127, 127, 383, 1023, 127, 127, 127, 12415, 32767, 65535, 131071, 262143]
theorem laws_FnOpSize.tab23 : rtab .any (opsOf Try.f4 23) = laws_FnOpSize.T23 := by kernel_rfl
theorem laws_FnOpSize.bits23 : waitsOk laws_FnOpSize.T23.2 laws_FnOpSize.B23 = true := by kernel_rfl
set_option maxHeartbeats 8000000 in
set_option maxRecDepth 100000 in
theorem laws_FnOpSize.calls (k : Nat) (A0 : Option Addr) (c0 : Nat) (l0 : List Int) (A1 : Option Addr) (c1 : Nat) (l1 : List Int) (r : Bool) (w : World) (hr0 : Kd.C (Kd.int .u8) w A0 l0.length l0) (hc0 : l0.length ≤ c0) (hr1 : Kd.C (Kd.int .u8) w A1 l1.length l1) (hc1 : l1.length ≤ c1) (h : laws_FnOpSize.f k l0 l1 = some r) (hrt : r = true) :
  Calls Try.prog 4 #[.slice A0 l0.length c0, .slice A1 l1.length c1] w fun e w' => e = .returned (.bool r) ∧ Below w.heap.size w w' := by
 have hu25 := Try.underlying25; have hu27 := Try.underlying27; have hu36 := Try.underlying36; have HR0 := yaa hr0; have HC0 := yaa hc0; clear hr0 hc0; have HR1 := yaa hr1; have HC1 := yaa hc1; clear hr1 hc1; have HB := yaa (Below.refl w.heap.size w); have H : (if (l0.length : Int) > 1048576 then (laws_FnOpSize.j0 k l0 l1 true) else (laws_FnOpSize.j0 k l0 l1 (decide ((l1.length : Int) > 1048576)))) = some r := h; clear h; have HC3 := yaa H; clear H
 go_enter Try.func4, Try.ntmps4
 go_upto_region 1 with (fail)
 go_cut [23] (fun v23 wc => ∃ (kq : Nat) (E5 : Bool), v23 = .bool E5 ∧ ybb (laws_FnOpSize.j0 kq l0 l1 E5 = some r) ∧ ybb (kq ≤ k) ∧ ybb (Below w.heap.size w wc))
 case first =>
  have H := HC3.out; clear HC3
  by_cases c4 : (l0.length : Int) > 1048576
  ·
   rw [if_pos c4] at H
   have o6 : decide (1048576 < (l0.length : Int)) = true := decide_eq_true c4; have G7 : decide (1048576 < l0.length) = true := decide_eq_true (by omega); clear c4
   (first | rw [o6] | (simp only [i64_w, i32_w]; rw [o6]) | skip)
   have H' := yaa H; clear H
   go_wp2
   go_meet
   case rel => exact ⟨_, (true), (by first | rfl | (simp; done) | (simp [*]; done)), H', ⟨by first | omega | exact Nat.le_refl _⟩, ⟨upH HB.out⟩⟩
  ·
   rw [if_neg c4] at H
   have o6 : decide (1048576 < (l0.length : Int)) = false := decide_eq_false c4; have G7 : decide (1048576 < l0.length) = false := decide_eq_false (by omega); clear c4
   (first | rw [o6] | (simp only [i64_w, i32_w]; rw [o6]) | skip)
   have H' := yaa H; clear H
   go_wp2
   go_meet
   case rel => exact ⟨_, (decide ((l1.length : Int) > 1048576)), (by first | rfl | (simp; done) | (simp [*]; done)), H', ⟨by first | omega | exact Nat.le_refl _⟩, ⟨upH HB.out⟩⟩
 case rest =>
  clear HC3; (try clear c1); (try clear p2); (try clear c4); (try clear o6); (try clear G7); obtain ⟨kq, E5, rfl, HA, HJ2, HB⟩ := hcut
  cases kq with
  | zero => exact absurd HA.out (by simp [laws_FnOpSize.j0])
  | succ kj2 =>
   have H := HA.out; clear HA
   simp only [laws_FnOpSize.j0] at H
   by_cases c5 : E5 = true
   ·
    subst c5
    rw [if_pos rfl] at H
    obtain rfl := Option.some.inj H
    go_wp2
    go_ret
    exact ⟨by first | rfl | (simp [*, errW_none, errW_some] <;> rfl), upH HB.out⟩
   ·
    replace c5 := Bool.eq_false_iff.mpr c5
    subst c5
    rw [if_neg (show ¬ (false = true) by decide)] at H
    replace H := Option.bind_eq_some_iff.mp H; obtain ⟨⟨e3, e4, e0, k5, k8, l4, m0, m2⟩, A60, H⟩ := H; (try dsimp only at H); have A6 := yaa A60; clear A60; replace H := Option.bind_eq_some_iff.mp H; obtain ⟨V9, A70, H⟩ := H; (try dsimp only at H); have A7 := yaa A70; clear A70
    by_cases c8 : V9 = true
    ·
     subst c8
     rw [if_pos rfl] at H
     obtain ⟨y117, hy117⟩ : ∃ y_ : List (S27), y_ = (([(⟨7, 1 + ((l1.length : Int) % 6), wrap64 (1 + (Int.tmod (wrap64 ((l1.length : Int) / 7)) 6)), 0, 0⟩ : S27)] : List (S27))) := ⟨_, rfl⟩
     conv at H => enter [1, 1, 5]; rw [← hy117]
     have Ny117 := yaa hy117; clear hy117; replace H := Option.bind_eq_some_iff.mp H; obtain ⟨⟨i6, i9, g1⟩, A90, H⟩ := H; (try dsimp only at H); have A9 := yaa A90; clear A90; replace H := Option.bind_eq_some_iff.mp H; obtain ⟨⟨i4, i7, f7, W0⟩, M7, H⟩ := H; (try dsimp only at H); have A10 := yaa M7; clear M7; have HC11 := yaa H; clear H
     go_upto_region 9 with (first | ((with_reducible refine gate_callee (f := 10) rfl ?_); refine gl_ (some 26) rfl Try.func10 #[.slice A0 l0.length c0] ?_; (with_reducible refine (spec_DrawOpDo.calls kj2 _ _ l0 e3 e4 e0 k5 k8 l4 m0 m2 _ ?side1 ?side2 A6.out).mono ?_); (case side1 => repeat (first | exact (Kd.C_below HR0.out HB.out) | (with_reducible refine Kd.C_alloc ?_ _) | (with_reducible refine Kd.C_drewN ?_ _) | (with_reducible refine Kd.C_drew ?_))); (case side2 => exact HC0.out); rintro e w12 ⟨W1, rfl, ho0, hb⟩; refine ⟨_, rfl, ?_⟩; have e9 := yaa (Kd.Q_lower ho0 (ybc (upH HB.out))); replace HB := yaa (yan (upH HB.out) hb); (try clear hb); (try clear hb2); (try clear hk); (try clear hi); (try clear ho0)) | ((with_reducible refine gate_dst (N := 5) rfl ?_); (try (refine gate_guard (by rfl) ?_; dsimp only)); refine bx_ 5 #[.int .i64 0, .int .i64 0, .slice none 0 0] 25 ?_; intro d9 hg w13 hbox hb; replace e9 := yaa (yak (upQ e9.out) hb); have a5 := yaa (hbox); have G8 := yaa ((by rw [hg]; exact (ybc (upH HB.out)) : w.heap.size ≤ d9)); replace HB := yaa (yan (upH HB.out) hb); have M8 := G8; clear hb hbox hg) | ((with_reducible refine gate_dst (N := 6) rfl ?_); (try (refine gate_guard (by rfl) ?_; dsimp only)); refine bx_ 6 #[.int .i64 0, .int .i64 0, .int .i64 0, .int .i64 0, .int .i64 0] 27 ?_; intro d8 hg w14 hbox hb; replace e9 := yaa (yak (upQ e9.out) hb); have a7 := yaa (hbox); have G9 := yaa ((by rw [hg]; exact (ybc (by repeat (with_reducible first | exact HB.out | apply yaf | apply yad | apply yae | refine yai ?_ (Aside0.out ‹_›)))) : w.heap.size ≤ d8)); replace HB := yaa (yan (by repeat (with_reducible first | exact HB.out | apply yaf | apply yad | apply yae | refine yai ?_ (Aside0.out ‹_›))) hb); have M9 := G9; have f8 := yaa ((by rw [hg]; exact Nat.ne_of_lt (blk_lt (upB a5.out)) : d9 ≠ d8)); replace a5 := yaa (yac (upB a5.out) hb); have h0 := yaa f8.out.symm; clear hb hbox hg; have bL := f8.out; have bM := h0.out; obtain ⟨o7, o8, o9⟩ := cc3_ a5.out; obtain ⟨p0, p1, p3⟩ := cf3_ a5.out; obtain ⟨g8, g7, W2, _⟩ := Kd.Q_slice e9.out; subst W2; obtain ⟨p4, p5, p7, p8, p9⟩ := cc5_ a7.out; obtain ⟨q0, q1, q2, q3⟩ := cf4_ a7.out; have q4 := blk_frozen a7.out 4) | ((with_reducible refine gate_callee (f := 16) rfl ?_); refine gl_ (some 30) rfl Try.func16 #[.agg #[.int .i64 e3, .int .i64 e4, .slice g8 e0.length g7]] ?_; (with_reducible refine (spec_RasOk.calls kj2 e3 e4 _ _ e0 true _ ?side1 ?side2 A7.out).mono ?_); (case side1 => refine (Kd.Q_reads' (e := 36) (base := w.heap.size) (ok := fun k_ => True) (n := e0.length) (c := g7) ?_).2.2; exact (by (with_reducible repeat (first | apply ybi | apply ybj | apply yay)); exact (ybg (ybg (yah (p := ⟨d8, 4, none⟩) (yah (p := ⟨d8, 3, none⟩) (yah (p := ⟨d8, 2, none⟩) (yah (p := ⟨d8, 1, none⟩) (yah (p := ⟨d8, 0, none⟩) (yah (p := ⟨d9, 2, none⟩) (yah (p := ⟨d9, 1, none⟩) (yah (p := ⟨d9, 0, none⟩) (yab (yab e9.out a5.out (by decide)) a7.out (by decide)) (fun _ hk => hk.1.2) (.int .i64 e3)) (fun _ hk => hk.1.2) (.int .i64 e4)) (fun _ hk => hk.1.2) (.slice g8 e0.length g7)) (fun _ hk => hk.2) (.int .i64 k5)) (fun _ hk => hk.2) (.int .i64 k8)) (fun _ hk => hk.2) (.int .i64 l4)) (fun _ hk => hk.2) (.int .i64 m0)) (fun _ hk => hk.2) (.int .i64 m2)) (fun _ h_ => h_.1)) (fun _ h_ => h_.1)))); (case side2 => exact (Kd.Q_reads' e9.out).2.1); rintro e w19 ⟨rfl, hb⟩; refine ⟨_, rfl, ?_⟩; replace e9 := yaa (yak (by (with_reducible repeat (first | apply ybi | apply ybj | apply yay)); exact (ybg (ybg (yah (p := ⟨d8, 4, none⟩) (yah (p := ⟨d8, 3, none⟩) (yah (p := ⟨d8, 2, none⟩) (yah (p := ⟨d8, 1, none⟩) (yah (p := ⟨d8, 0, none⟩) (yah (p := ⟨d9, 2, none⟩) (yah (p := ⟨d9, 1, none⟩) (yah (p := ⟨d9, 0, none⟩) (yab (yab e9.out a5.out (by decide)) a7.out (by decide)) (fun _ hk => hk.1.2) (.int .i64 e3)) (fun _ hk => hk.1.2) (.int .i64 e4)) (fun _ hk => hk.1.2) (.slice g8 e0.length g7)) (fun _ hk => hk.2) (.int .i64 k5)) (fun _ hk => hk.2) (.int .i64 k8)) (fun _ hk => hk.2) (.int .i64 l4)) (fun _ hk => hk.2) (.int .i64 m0)) (fun _ hk => hk.2) (.int .i64 m2)) (fun _ h_ => h_.1)) (fun _ h_ => h_.1))) hb); replace a5 := yaa (yac (g := d9) (o := .cells #[.int .i64 e3, .int .i64 e4, .slice g8 e0.length g7] 25 (0, 0)) (by (repeat refine oneB ?_); refine yao ?_ f8.out _; (repeat refine oneB ?_); refine yao ?_ f8.out _; (repeat refine oneB ?_); refine yao ?_ f8.out _; (repeat refine oneB ?_); refine yao ?_ f8.out _; (repeat refine oneB ?_); refine yao ?_ f8.out _; (repeat refine oneB ?_); refine yam (cs := #[.int .i64 e3, .int .i64 e4, .slice none 0 0]) ?_ 2 _ rfl; refine yam (cs := #[.int .i64 e3, .int .i64 0, .slice none 0 0]) ?_ 1 _ rfl; refine yam (cs := #[.int .i64 0, .int .i64 0, .slice none 0 0]) ?_ 0 _ rfl; exact upB a5.out) hb); replace a7 := yaa (yac (g := d8) (o := .cells #[.int .i64 k5, .int .i64 k8, .int .i64 l4, .int .i64 m0, .int .i64 m2] 27 (0, 0)) (by (repeat refine oneB ?_); refine yam (cs := #[.int .i64 k5, .int .i64 k8, .int .i64 l4, .int .i64 m0, .int .i64 0]) ?_ 4 _ rfl; refine yam (cs := #[.int .i64 k5, .int .i64 k8, .int .i64 l4, .int .i64 0, .int .i64 0]) ?_ 3 _ rfl; refine yam (cs := #[.int .i64 k5, .int .i64 k8, .int .i64 0, .int .i64 0, .int .i64 0]) ?_ 2 _ rfl; refine yam (cs := #[.int .i64 k5, .int .i64 0, .int .i64 0, .int .i64 0, .int .i64 0]) ?_ 1 _ rfl; refine yam (cs := #[.int .i64 0, .int .i64 0, .int .i64 0, .int .i64 0, .int .i64 0]) ?_ 0 _ rfl; (repeat refine oneB ?_); refine yao ?_ h0.out _; (repeat refine oneB ?_); refine yao ?_ h0.out _; (repeat refine oneB ?_); refine yao ?_ h0.out _; exact upB a7.out) hb); replace HB := yaa (yan (by repeat (with_reducible first | exact HB.out | apply yaf | apply yad | apply yae | refine yai ?_ (Aside0.out ‹_›))) hb); (try clear hb); (try clear hb2); (try clear hk); (try clear hi)) | ((with_reducible refine gate_dst (N := 7) rfl ?_); (try (refine gate_guard (by rfl) ?_; dsimp only)); refine bx_ 7 #[.int .i64 0, .int .i64 0, .int .i64 0, .int .i64 0, .int .i64 0] 27 ?_; intro d7 hg w20 hbox hb; replace e9 := yaa (yak (upQ e9.out) hb); have a6 := yaa (hbox); have N0 := yaa ((by rw [hg]; exact (ybc (by repeat (with_reducible first | exact HB.out | apply yaf | apply yad | apply yae | refine yai ?_ (Aside0.out ‹_›)))) : w.heap.size ≤ d7)); replace HB := yaa (yan (by repeat (with_reducible first | exact HB.out | apply yaf | apply yad | apply yae | refine yai ?_ (Aside0.out ‹_›))) hb); have bN := N0; have j4 := yaa ((by rw [hg]; exact Nat.ne_of_lt (blk_lt (upB a5.out)) : d9 ≠ d7)); replace a5 := yaa (yac (upB a5.out) hb); have k9 := yaa j4.out.symm; have l6 := yaa ((by rw [hg]; exact Nat.ne_of_lt (blk_lt (upB a7.out)) : d8 ≠ d7)); replace a7 := yaa (yac (upB a7.out) hb); have n5 := yaa l6.out.symm; clear hb hbox hg; have bO := k9.out; have bP := j4.out; have bQ := n5.out; have bR := l6.out; obtain ⟨q5, q6, q7, q8, q9⟩ := cc5_ a6.out; obtain ⟨r0, r1, r2, r3, r4⟩ := cf5_ a6.out; obtain ⟨r5, r6, r7⟩ := cc3_ a5.out; obtain ⟨r8, r9⟩ := cf2_ a5.out; have s0 := blk_frozen a5.out 2) | ((with_reducible refine gate_dst (N := 50) rfl ?_); (try (refine gate_guard (by rfl) ?_; dsimp only)); refine Kd.R_lit k27 _ 27 ?hg (N := 50) ?hd (xs := ([(⟨7, 1 + ((l1.length : Int) % 6), wrap64 (1 + (Int.tmod (wrap64 ((l1.length : Int) / 7)) 6)), 0, 0⟩ : S27)] : List (S27))) (inner := [.int .i64 7, .int .i64 (1 + ((l1.length : Int) % 6)), .int .i64 (wrap64 (1 + (Int.tmod (wrap64 ((l1.length : Int) / 7)) 6))), .int .i64 0, .int .i64 0]) (ok := fun _ => True) (okp := fun _ => True) ?hr ?hp (fun _ hk => hk) trivial (Below.refl _ _) (Nat.le_refl _) (by simp) ?_; (case hd => rfl); (case hg => first | rfl | (simp [Region.wanted, yielded, *]; done)); (case hr => first | (go_simp; done) | (go_simp; rfl)); (case hp => exact (Reps.c5 (show Kd.M k27 _ _ _ (⟨7, 1 + ((l1.length : Int) % 6), wrap64 (1 + (Int.tmod (wrap64 ((l1.length : Int) / 7)) 6)), 0, 0⟩ : S27) [.int .i64 7, .int .i64 (1 + ((l1.length : Int) % 6)), .int .i64 (wrap64 (1 + (Int.tmod (wrap64 ((l1.length : Int) / 7)) 6))), .int .i64 0, .int .i64 0] from (k27_mkM _ _ _ (⟨7, 1 + ((l1.length : Int) % 6), wrap64 (1 + (Int.tmod (wrap64 ((l1.length : Int) / 7)) 6)), 0, 0⟩ : S27) )) (Reps.none _ _))); intro eY w25 H1 hb hg_ hnew_; clear hg_ hnew_; (first | rw [← Ny117.out] at H1 | (simp only [Int.reduceToNat] at H1; rw [← Ny117.out] at H1)); replace e9 := yaa (yak (by (with_reducible repeat (first | apply ybi | apply ybj | apply yay)); exact (ybg (yah (p := ⟨d7, 4, none⟩) (yah (p := ⟨d7, 3, none⟩) (yah (p := ⟨d7, 2, none⟩) (yah (p := ⟨d7, 1, none⟩) (yah (p := ⟨d7, 0, none⟩) (yab e9.out a6.out (by decide)) (fun _ hk => hk.2) (.int .i64 7)) (fun _ hk => hk.2) (.int .i64 (1 + ((l1.length : Int) % 6)))) (fun _ hk => hk.2) (.int .i64 (wrap64 (1 + (Int.tmod (wrap64 ((l1.length : Int) / 7)) 6))))) (fun _ hk => hk.2) (.int .i64 0)) (fun _ hk => hk.2) (.int .i64 0)) (fun _ h_ => h_.1))) hb); have j2 := yaa (Kd.R_lower (Kd.R_newB (Kd.R_newB H1 (g := d8) (o := .cells #[.int .i64 k5, .int .i64 k8, .int .i64 l4, .int .i64 m0, .int .i64 m2] 27 (0, 0)) (by repeat (with_reducible first | exact a7.out | refine oneB ?_ | refine yao ?_ l6.out _))) (g := d7) (o := .cells #[.int .i64 7, .int .i64 (1 + ((l1.length : Int) % 6)), .int .i64 (wrap64 (1 + (Int.tmod (wrap64 ((l1.length : Int) / 7)) 6))), .int .i64 0, .int .i64 0] 27 (0, 0)) (by (repeat refine oneB ?_); refine yam (cs := #[.int .i64 7, .int .i64 (1 + ((l1.length : Int) % 6)), .int .i64 (wrap64 (1 + (Int.tmod (wrap64 ((l1.length : Int) / 7)) 6))), .int .i64 0, .int .i64 0]) ?_ 4 _ rfl; refine yam (cs := #[.int .i64 7, .int .i64 (1 + ((l1.length : Int) % 6)), .int .i64 (wrap64 (1 + (Int.tmod (wrap64 ((l1.length : Int) / 7)) 6))), .int .i64 0, .int .i64 0]) ?_ 3 _ rfl; refine yam (cs := #[.int .i64 7, .int .i64 (1 + ((l1.length : Int) % 6)), .int .i64 0, .int .i64 0, .int .i64 0]) ?_ 2 _ rfl; refine yam (cs := #[.int .i64 7, .int .i64 0, .int .i64 0, .int .i64 0, .int .i64 0]) ?_ 1 _ rfl; refine yam (cs := #[.int .i64 0, .int .i64 0, .int .i64 0, .int .i64 0, .int .i64 0]) ?_ 0 _ rfl; exact upB a6.out)) (ybc (by repeat (with_reducible first | exact HB.out | apply yaf | apply yad | apply yae | refine yai ?_ (Aside0.out ‹_›))))); replace a5 := yaa (yac (g := d9) (o := .cells #[.int .i64 e3, .int .i64 e4, .slice g8 e0.length g7] 25 (0, 0)) (by repeat (with_reducible first | exact a5.out | refine oneB ?_ | refine yao ?_ j4.out _)) hb); replace a7 := yaa (yac (g := d8) (o := .cells #[.int .i64 k5, .int .i64 k8, .int .i64 l4, .int .i64 m0, .int .i64 m2] 27 (0, 0)) (by repeat (with_reducible first | exact a7.out | refine oneB ?_ | refine yao ?_ l6.out _)) hb); replace a6 := yaa (yac (g := d7) (o := .cells #[.int .i64 7, .int .i64 (1 + ((l1.length : Int) % 6)), .int .i64 (wrap64 (1 + (Int.tmod (wrap64 ((l1.length : Int) / 7)) 6))), .int .i64 0, .int .i64 0] 27 (0, 0)) (by (repeat refine oneB ?_); refine yam (cs := #[.int .i64 7, .int .i64 (1 + ((l1.length : Int) % 6)), .int .i64 (wrap64 (1 + (Int.tmod (wrap64 ((l1.length : Int) / 7)) 6))), .int .i64 0, .int .i64 0]) ?_ 4 _ rfl; refine yam (cs := #[.int .i64 7, .int .i64 (1 + ((l1.length : Int) % 6)), .int .i64 (wrap64 (1 + (Int.tmod (wrap64 ((l1.length : Int) / 7)) 6))), .int .i64 0, .int .i64 0]) ?_ 3 _ rfl; refine yam (cs := #[.int .i64 7, .int .i64 (1 + ((l1.length : Int) % 6)), .int .i64 0, .int .i64 0, .int .i64 0]) ?_ 2 _ rfl; refine yam (cs := #[.int .i64 7, .int .i64 0, .int .i64 0, .int .i64 0, .int .i64 0]) ?_ 1 _ rfl; refine yam (cs := #[.int .i64 0, .int .i64 0, .int .i64 0, .int .i64 0, .int .i64 0]) ?_ 0 _ rfl; exact upB a6.out) hb); replace HB := yaa (yan (by repeat (with_reducible first | exact HB.out | apply yaf | apply yad | apply yae | refine yai ?_ (Aside0.out ‹_›))) hb); clear hb H1; obtain ⟨H2, H3, W4⟩ := Kd.R_slice j2.out; subst W4) | ((with_reducible refine gate_callee (f := 15) rfl ?_); refine gl_ (some 51) rfl Try.func15 #[.agg #[.int .i64 e3, .int .i64 e4, .slice g8 e0.length g7], .slice H2 y117.length H3] ?_; (with_reducible refine (laws_eaDo.calls kj2 e3 e4 (fun k_ => some k_ = (.slice g8 e0.length g7 : Value).ownBlock) _ _ e0 _ _ y117 i6 i9 g1 _ ?side1 ?side2 ?side3 A9.out).mono ?_); (case side1 => exact Kd.Q_V (Kd.Q_tight rfl (yab (yab (yab (yag (e9.out) (yaj j2.out) (by decide)) a5.out (by decide)) a7.out (by decide)) a6.out (by decide)))); (case side2 => repeat (first | exact (ybl j2.out).2.2 | (with_reducible refine Kd.C_alloc ?_ _) | (with_reducible refine Kd.C_drewN ?_ _) | (with_reducible refine Kd.C_drew ?_))); (case side3 => exact (ybl j2.out).2.1); rintro e w28 ⟨eZ, rfl, ho0, hb⟩; refine ⟨_, rfl, ?_⟩; have j6 := yaa (Kd.V_lower (yal (ok' := fun k_ => some k_ ≠ (.slice H2 y117.length H3 : Value).ownBlock ∧ k_ ≠ d9 ∧ k_ ≠ d8 ∧ k_ ≠ d7) ho0 (fun k_ hk_ => ⟨Or.elim hk_ (fun hs_ => ((yab (yab (yab (yag (e9.out) (yaj j2.out) (by decide)) a5.out (by decide)) a7.out (by decide)) a6.out (by decide)).1 k_ hs_.symm).1.1.1.2) (fun hn_ => (Kd.fresh' (Kd.R_lt (upR j2.out)) k_ hn_)), Or.elim hk_ (fun hs_ => ((yab (yab (yab (yag (e9.out) (yaj j2.out) (by decide)) a5.out (by decide)) a7.out (by decide)) a6.out (by decide)).1 k_ hs_.symm).1.1.2) (fun hn_ => (yaz (upB a5.out) k_ hn_)), Or.elim hk_ (fun hs_ => ((yab (yab (yab (yag (e9.out) (yaj j2.out) (by decide)) a5.out (by decide)) a7.out (by decide)) a6.out (by decide)).1 k_ hs_.symm).1.2) (fun hn_ => (yaz (upB a7.out) k_ hn_)), Or.elim hk_ (fun hs_ => ((yab (yab (yab (yag (e9.out) (yaj j2.out) (by decide)) a5.out (by decide)) a7.out (by decide)) a6.out (by decide)).1 k_ hs_.symm).2) (fun hn_ => (yaz (upB a6.out) k_ hn_))⟩)) (ybc (by repeat (with_reducible first | exact HB.out | apply yaf | apply yad | apply yae | refine yai ?_ (Aside0.out ‹_›))))); replace e9 := yaa (yak (upQ e9.out) hb); replace j2 := yaa (yas (upR j2.out) hb); replace a5 := yaa (yac (upB a5.out) hb); replace a7 := yaa (yac (upB a7.out) hb); replace a6 := yaa (yac (upB a6.out) hb); replace HB := yaa (yan (by repeat (with_reducible first | exact HB.out | apply yaf | apply yad | apply yae | refine yai ?_ (Aside0.out ‹_›))) hb); (try clear hb); (try clear hb2); (try clear hk); (try clear hi); (try clear ho0)) | ((with_reducible refine gate_dst (N := 8) rfl ?_); (try (refine gate_guard (by rfl) ?_; dsimp only)); refine bx_ 8 #[.int .i64 0, .int .i64 0, .slice none 0 0] 25 ?_; intro e6 hg w29 hbox hb; replace e9 := yaa (yak (upQ e9.out) hb); replace j2 := yaa (yas (upR j2.out) hb); replace j6 := yaa (ybd (Kd.V_elderB (upV j6.out) e6 (Nat.le_of_eq hg.symm)) hb); have b1 := yaa (hbox); have N2 := yaa ((by rw [hg]; exact (ybc (by repeat (with_reducible first | exact HB.out | apply yaf | apply yad | apply yae | refine yai ?_ (Aside0.out ‹_›)))) : w.heap.size ≤ e6)); replace HB := yaa (yan (by repeat (with_reducible first | exact HB.out | apply yaf | apply yad | apply yae | refine yai ?_ (Aside0.out ‹_›))) hb); have bS := N2; have i5 := yaa ((by rw [hg]; exact Nat.ne_of_lt (blk_lt (upB a5.out)) : d9 ≠ e6)); replace a5 := yaa (yac (upB a5.out) hb); have j5 := yaa i5.out.symm; have j8 := yaa ((by rw [hg]; exact Nat.ne_of_lt (blk_lt (upB a7.out)) : d8 ≠ e6)); replace a7 := yaa (yac (upB a7.out) hb); have l7 := yaa j8.out.symm; have j9 := yaa ((by rw [hg]; exact Nat.ne_of_lt (blk_lt (upB a6.out)) : d7 ≠ e6)); replace a6 := yaa (yac (upB a6.out) hb); have l8 := yaa j9.out.symm; clear hb hbox hg; have bT := j5.out; have bU := i5.out; have bV := l7.out; have bW := j8.out; have bX := l8.out; have bY := j9.out; obtain ⟨s1, s2, s3⟩ := cc3_ b1.out; obtain ⟨s4, s5, s6⟩ := cf3_ b1.out; obtain ⟨k6, j7, W5⟩ := Kd.V_slice j6.out; subst W5; obtain ⟨s7, s8, s9⟩ := cc3_ a5.out; obtain ⟨t0, t1, t2⟩ := cf3_ a5.out; have t3 : w29.cell? ⟨d7, 0, none⟩ = some (.int .i64 7) := (ybh a6.out 0).trans rfl; have t4 : w29.cell? ⟨d7, 1, none⟩ = some (.int .i64 (1 + ((l1.length : Int) % 6))) := (ybh a6.out 1).trans rfl; have t5 : w29.cell? ⟨d7, 2, none⟩ = some (.int .i64 (wrap64 (1 + (Int.tmod (wrap64 ((l1.length : Int) / 7)) 6)))) := (ybh a6.out 2).trans rfl; have t6 : w29.cell? ⟨d7, 3, none⟩ = some (.int .i64 0) := (ybh a6.out 3).trans rfl; have t7 : w29.cell? ⟨d7, 4, none⟩ = some (.int .i64 0) := (ybh a6.out 4).trans rfl; obtain ⟨t8, t9, u0, u1⟩ := cf4_ a6.out; have u2 := blk_frozen a6.out 4) | ((with_reducible refine gate_callee (f := 12) rfl ?_); refine gl_ (some 55) rfl Try.func12 #[.agg #[.int .i64 e3, .int .i64 e4, .slice g8 e0.length g7], .agg #[.int .i64 7, .int .i64 (1 + ((l1.length : Int) % 6)), .int .i64 (wrap64 (1 + (Int.tmod (wrap64 ((l1.length : Int) / 7)) 6))), .int .i64 0, .int .i64 0]] ?_; (with_reducible refine (spec_OpDo.calls kj2 e3 e4 _ _ e0 7 (1 + ((l1.length : Int) % 6)) (wrap64 (1 + (Int.tmod (wrap64 ((l1.length : Int) / 7)) 6))) 0 0 i4 i7 f7 W0 _ ?side1 ?side2 A10.out).mono ?_); (case side1 => refine (Kd.Q_reads' (e := 36) (base := w.heap.size) (ok := fun k_ => True) (n := e0.length) (c := g7) ?_).2.2; exact (by (with_reducible repeat (first | apply ybi | apply ybj | apply yay)); exact (ybg (yah (p := ⟨e6, 2, none⟩) (yah (p := ⟨e6, 1, none⟩) (yah (p := ⟨e6, 0, none⟩) (yab e9.out b1.out (by decide)) (fun _ hk => hk.2) (.int .i64 i6)) (fun _ hk => hk.2) (.int .i64 i9)) (fun _ hk => hk.2) (.slice k6 g1.length j7)) (fun _ h_ => h_.1)))); (case side2 => exact (Kd.Q_reads' e9.out).2.1); rintro e w37 ⟨fA, rfl, ho0, hb⟩; refine ⟨_, rfl, ?_⟩; replace j2 := yaa (yas (by (with_reducible repeat (first | apply yap | apply yaq | apply yba)); exact (ybk (yaw (p := ⟨e6, 2, none⟩) (yaw (p := ⟨e6, 1, none⟩) (yaw (p := ⟨e6, 0, none⟩) (Kd.R_types j2.out b1.out (by decide)) (fun _ hk => hk.2) (.int .i64 i6)) (fun _ hk => hk.2) (.int .i64 i9)) (fun _ hk => hk.2) (.slice k6 g1.length j7)) (fun _ h_ => h_.1))) hb); replace j6 := yaa (Kd.V_elder' (by (with_reducible repeat (first | apply yau | apply yav | apply yax)); exact (yal (yat (p := ⟨e6, 2, none⟩) (yat (p := ⟨e6, 1, none⟩) (yat (p := ⟨e6, 0, none⟩) (yal j6.out (fun k_ hk => (⟨hk, hk.2⟩ : _ ∧ k_ ≠ e6))) (fun _ hk => hk.2) (.int .i64 i6)) (fun _ hk => hk.2) (.int .i64 i9)) (fun _ hk => hk.2) (.slice k6 g1.length j7)) (fun _ h_ => h_.1))) (Kd.R_base ho0) hb); have k7 := yaa (Kd.R_lower (Kd.R_new' ho0 (Kd.Q_lt (by (with_reducible repeat (first | apply ybi | apply ybj | apply yay)); exact (ybg (yah (p := ⟨e6, 2, none⟩) (yah (p := ⟨e6, 1, none⟩) (yah (p := ⟨e6, 0, none⟩) (yab e9.out b1.out (by decide)) (fun _ hk => hk.2) (.int .i64 i6)) (fun _ hk => hk.2) (.int .i64 i9)) (fun _ hk => hk.2) (.slice k6 g1.length j7)) (fun _ h_ => h_.1))))) (ybc (by repeat (with_reducible first | exact HB.out | apply yaf | apply yad | apply yae | refine yai ?_ (Aside0.out ‹_›))))); replace e9 := yaa (Kd.Q_elder' (by (with_reducible repeat (first | apply ybi | apply ybj | apply yay)); exact (ybg (yah (p := ⟨e6, 2, none⟩) (yah (p := ⟨e6, 1, none⟩) (yah (p := ⟨e6, 0, none⟩) (yab e9.out b1.out (by decide)) (fun _ hk => hk.2) (.int .i64 i6)) (fun _ hk => hk.2) (.int .i64 i9)) (fun _ hk => hk.2) (.slice k6 g1.length j7)) (fun _ h_ => h_.1))) (Kd.R_base ho0) hb); replace a5 := yaa (yac (g := d9) (o := .cells #[.int .i64 e3, .int .i64 e4, .slice g8 e0.length g7] 25 (0, 0)) (by repeat (with_reducible first | exact a5.out | refine oneB ?_ | refine yao ?_ i5.out _)) hb); replace a7 := yaa (yac (g := d8) (o := .cells #[.int .i64 k5, .int .i64 k8, .int .i64 l4, .int .i64 m0, .int .i64 m2] 27 (0, 0)) (by repeat (with_reducible first | exact a7.out | refine oneB ?_ | refine yao ?_ j8.out _)) hb); replace a6 := yaa (yac (g := d7) (o := .cells #[.int .i64 7, .int .i64 (1 + ((l1.length : Int) % 6)), .int .i64 (wrap64 (1 + (Int.tmod (wrap64 ((l1.length : Int) / 7)) 6))), .int .i64 0, .int .i64 0] 27 (0, 0)) (by repeat (with_reducible first | exact a6.out | refine oneB ?_ | refine yao ?_ j9.out _)) hb); replace b1 := yaa (yac (g := e6) (o := .cells #[.int .i64 i6, .int .i64 i9, .slice k6 g1.length j7] 25 (0, 0)) (by (repeat refine oneB ?_); refine yam (cs := #[.int .i64 i6, .int .i64 i9, .slice none 0 0]) ?_ 2 _ rfl; refine yam (cs := #[.int .i64 i6, .int .i64 0, .slice none 0 0]) ?_ 1 _ rfl; refine yam (cs := #[.int .i64 0, .int .i64 0, .slice none 0 0]) ?_ 0 _ rfl; exact upB b1.out) hb); replace HB := yaa (yan (by repeat (with_reducible first | exact HB.out | apply yaf | apply yad | apply yae | refine yai ?_ (Aside0.out ‹_›))) hb); (try clear hb); (try clear hb2); (try clear hk); (try clear hi); (try clear ho0)) | ((with_reducible refine gate_dst (N := 9) rfl ?_); (try (refine gate_guard (by rfl) ?_; dsimp only)); refine bx_ 9 #[.int .i64 0, .int .i64 0, .slice none 0 0] 25 ?_; intro b6 hg w38 hbox hb; replace e9 := yaa (yak (upQ e9.out) hb); replace j2 := yaa (yas (upR j2.out) hb); replace j6 := yaa (ybd (Kd.V_elderB (upV j6.out) b6 (Nat.le_of_eq hg.symm)) hb); replace k7 := yaa (yas (upR k7.out) hb); have b2 := yaa (hbox); have N3 := yaa ((by rw [hg]; exact (ybc (by repeat (with_reducible first | exact HB.out | apply yaf | apply yad | apply yae | refine yai ?_ (Aside0.out ‹_›)))) : w.heap.size ≤ b6)); replace HB := yaa (yan (by repeat (with_reducible first | exact HB.out | apply yaf | apply yad | apply yae | refine yai ?_ (Aside0.out ‹_›))) hb); have bZ := N3; have h6 := yaa ((by rw [hg]; exact Nat.ne_of_lt (blk_lt (upB a5.out)) : d9 ≠ b6)); replace a5 := yaa (yac (upB a5.out) hb); have k0 := yaa h6.out.symm; have k1 := yaa ((by rw [hg]; exact Nat.ne_of_lt (blk_lt (upB a7.out)) : d8 ≠ b6)); replace a7 := yaa (yac (upB a7.out) hb); have m7 := yaa k1.out.symm; have k2 := yaa ((by rw [hg]; exact Nat.ne_of_lt (blk_lt (upB a6.out)) : d7 ≠ b6)); replace a6 := yaa (yac (upB a6.out) hb); have m8 := yaa k2.out.symm; have i8 := yaa ((by rw [hg]; exact Nat.ne_of_lt (blk_lt (upB b1.out)) : e6 ≠ b6)); replace b1 := yaa (yac (upB b1.out) hb); have l9 := yaa i8.out.symm; clear hb hbox hg; have cA := k0.out; have cB := h6.out; have cC := m7.out; have cD := k1.out; have cE := m8.out; have cF := k2.out; have cG := l9.out; have cH := i8.out; obtain ⟨u3, u4, u5⟩ := cc3_ b2.out; obtain ⟨u6, u7, u9⟩ := cf3_ b2.out; obtain ⟨g4, g2, W6⟩ := Kd.R_slice k7.out; subst W6))
     (try simp only [Act.put, List.setIfInBounds_toArray, List.set_cons_zero, List.set_cons_succ])
     go_cut [75] (fun v75 wc => ∃ (kq : Nat) (v0 : Bool), v75 = .bool v0 ∧ ybb (laws_FnOpSize.j1 kq v0 e3 e4 e0 7 (1 + ((l1.length : Int) % 6)) (wrap64 (1 + (Int.tmod (wrap64 ((l1.length : Int) / 7)) 6))) 0 0 i6 i9 g1 = some r) ∧ ybb (kq ≤ kj2) ∧ ybb (Kd.Q k36 36 wc w.heap.size (fun k_ => some k_ ≠ ((.slice g4 f7.length g2) : Value).ownBlock) (.slice g8 e0.length g7) e0) ∧ ybb (Kd.V k36 36 wc w.heap.size (fun k_ => some k_ ≠ ((.slice g4 f7.length g2) : Value).ownBlock ∧ k_ ≠ d9 ∧ k_ ≠ d8 ∧ k_ ≠ d7 ∧ k_ ≠ e6 ∧ k_ ≠ b6) (.slice k6 g1.length j7) g1) ∧ ybb (Kd.Q k36 36 wc w.heap.size (fun k_ => some k_ ≠ ((.slice g8 e0.length g7) : Value).ownBlock) (.slice g4 f7.length g2) f7) ∧ ybb (wc.heap[d9]? = some (.cells #[.int .i64 e3, .int .i64 e4, (.slice g8 e0.length g7)] 25 (0, 0))) ∧ ybb (wc.heap[d8]? = some (.cells #[.int .i64 k5, .int .i64 k8, .int .i64 l4, .int .i64 m0, .int .i64 m2] 27 (0, 0))) ∧ ybb (wc.heap[d7]? = some (.cells #[.int .i64 7, .int .i64 (1 + ((l1.length : Int) % 6)), .int .i64 (wrap64 (1 + (Int.tmod (wrap64 ((l1.length : Int) / 7)) 6))), .int .i64 0, .int .i64 0] 27 (0, 0))) ∧ ybb (wc.heap[e6]? = some (.cells #[.int .i64 i6, .int .i64 i9, (.slice k6 g1.length j7)] 25 (0, 0))) ∧ ybb (wc.heap[b6]? = some (.cells #[.int .i64 i4, .int .i64 i7, (.slice g4 f7.length g2)] 25 (0, 0))) ∧ ybb (Below w.heap.size w wc))
     case first =>
      have H := HC11.out; clear HC11; replace H := Option.bind_eq_some_iff.mp H; obtain ⟨W7, N4, H⟩ := H; (try dsimp only at H); have A45 := yaa N4; clear N4
      by_cases c46 : W7 = true
      ·
       subst c46
       rw [if_pos rfl] at H
       by_cases c47 : i6 = (1 + ((l1.length : Int) % 6))
       ·
        rw [if_pos c47] at H
        have o2 : (i6 == (1 + ((l1.length : Int) % 6))) = true := beq_iff_eq.mpr c47; have E6 : (i6 != (1 + ((l1.length : Int) % 6))) = false := bne_eq_false_iff_eq.mpr c47; clear c47
        (first | rw [o2] | (simp only [i64_w, i32_w]; rw [o2]) | skip)
        have H' := yaa H; clear H; have cI := j5.out; have cJ := i5.out; have cK := l7.out; have cL := j8.out; have cM := l8.out; have cN := j9.out; have cO := i8.out; have cP := l9.out; obtain ⟨v1, v2, v3⟩ := cc3_ b1.out; obtain ⟨v4, v5, v6⟩ := cf3_ b1.out; have cQ := k0.out; have cR := h6.out; have cS := m7.out; have cT := k1.out; have cU := m8.out; have cV := k2.out; obtain ⟨v7, v8, v9⟩ := cc3_ b2.out; obtain ⟨w2, w3, w4⟩ := cf3_ b2.out
        go_wp2_with (first | ((with_reducible refine gate_callee (f := 13) rfl ?_); refine gl_ (some 60) rfl Try.func13 #[.agg #[.int .i64 i6, .int .i64 i9, .slice k6 g1.length j7], .agg #[.int .i64 i4, .int .i64 i7, .slice g4 f7.length g2]] ?_; (with_reducible refine (laws_eaRas.calls kj2 i6 i9 _ _ g1 i4 i7 _ _ f7 true _ ?side1 ?side2 ?side3 ?side4 A45.out).mono ?_); (case side1 => refine (ybm (e := 36) (base := w.heap.size) (ok := fun k_ => ((((some k_ ≠ (.slice H2 y117.length H3 : Value).ownBlock ∧ (k_ ≠ d9 ∧ (k_ ≠ d8 ∧ k_ ≠ d7))) ∧ k_ ≠ e6) ∧ some k_ ≠ (.slice g4 f7.length g2 : Value).ownBlock) ∧ k_ ≠ b6)) (n := g1.length) (c := j7) ?_).2.2; exact (by (with_reducible repeat (first | apply yau | apply yav | apply yax)); exact (yal (yat (p := ⟨b6, 2, none⟩) (yat (p := ⟨b6, 1, none⟩) (yat (p := ⟨b6, 0, none⟩) (yal j6.out (fun k_ hk => (⟨hk, hk.2⟩ : _ ∧ k_ ≠ b6))) (fun _ hk => hk.2) (.int .i64 i4)) (fun _ hk => hk.2) (.int .i64 i7)) (fun _ hk => hk.2) (.slice g4 f7.length g2)) (fun _ h_ => h_.1)))); (case side2 => exact (ybm j6.out).2.1); (case side3 => refine (ybl (e := 36) (base := w.heap.size) (ok := fun k_ => (True ∧ some k_ ≠ (.slice g8 e0.length g7 : Value).ownBlock)) (n := f7.length) (c := g2) ?_).2.2; exact (by (with_reducible repeat (first | apply yap | apply yaq | apply yba)); exact (ybk (yaw (p := ⟨b6, 2, none⟩) (yaw (p := ⟨b6, 1, none⟩) (yaw (p := ⟨b6, 0, none⟩) (Kd.R_types k7.out b2.out (by decide)) (fun _ hk => hk.2) (.int .i64 i4)) (fun _ hk => hk.2) (.int .i64 i7)) (fun _ hk => hk.2) (.slice g4 f7.length g2)) (fun _ h_ => h_.1)))); (case side4 => exact (ybl k7.out).2.1); rintro e w57 ⟨rfl, hb⟩; refine ⟨_, rfl, ?_⟩; replace e9 := yaa (yak (by (with_reducible repeat (first | apply ybi | apply ybj | apply yay)); exact (ybg (yah (p := ⟨b6, 2, none⟩) (yah (p := ⟨b6, 1, none⟩) (yah (p := ⟨b6, 0, none⟩) (yab e9.out b2.out (by decide)) (fun _ hk => hk.2) (.int .i64 i4)) (fun _ hk => hk.2) (.int .i64 i7)) (fun _ hk => hk.2) (.slice g4 f7.length g2)) (fun _ h_ => h_.1))) hb); replace j2 := yaa (yas (by (with_reducible repeat (first | apply yap | apply yaq | apply yba)); exact (ybk (yaw (p := ⟨b6, 2, none⟩) (yaw (p := ⟨b6, 1, none⟩) (yaw (p := ⟨b6, 0, none⟩) (Kd.R_types j2.out b2.out (by decide)) (fun _ hk => hk.2) (.int .i64 i4)) (fun _ hk => hk.2) (.int .i64 i7)) (fun _ hk => hk.2) (.slice g4 f7.length g2)) (fun _ h_ => h_.1))) hb); replace j6 := yaa (ybd (by (with_reducible repeat (first | apply yau | apply yav | apply yax)); exact (yal (yat (p := ⟨b6, 2, none⟩) (yat (p := ⟨b6, 1, none⟩) (yat (p := ⟨b6, 0, none⟩) (yal j6.out (fun k_ hk => (⟨hk, hk.2⟩ : _ ∧ k_ ≠ b6))) (fun _ hk => hk.2) (.int .i64 i4)) (fun _ hk => hk.2) (.int .i64 i7)) (fun _ hk => hk.2) (.slice g4 f7.length g2)) (fun _ h_ => h_.1))) hb); replace k7 := yaa (yas (by (with_reducible repeat (first | apply yap | apply yaq | apply yba)); exact (ybk (yaw (p := ⟨b6, 2, none⟩) (yaw (p := ⟨b6, 1, none⟩) (yaw (p := ⟨b6, 0, none⟩) (Kd.R_types k7.out b2.out (by decide)) (fun _ hk => hk.2) (.int .i64 i4)) (fun _ hk => hk.2) (.int .i64 i7)) (fun _ hk => hk.2) (.slice g4 f7.length g2)) (fun _ h_ => h_.1))) hb); replace a5 := yaa (yac (g := d9) (o := .cells #[.int .i64 e3, .int .i64 e4, .slice g8 e0.length g7] 25 (0, 0)) (by repeat (with_reducible first | exact a5.out | refine oneB ?_ | refine yao ?_ h6.out _)) hb); replace a7 := yaa (yac (g := d8) (o := .cells #[.int .i64 k5, .int .i64 k8, .int .i64 l4, .int .i64 m0, .int .i64 m2] 27 (0, 0)) (by repeat (with_reducible first | exact a7.out | refine oneB ?_ | refine yao ?_ k1.out _)) hb); replace a6 := yaa (yac (g := d7) (o := .cells #[.int .i64 7, .int .i64 (1 + ((l1.length : Int) % 6)), .int .i64 (wrap64 (1 + (Int.tmod (wrap64 ((l1.length : Int) / 7)) 6))), .int .i64 0, .int .i64 0] 27 (0, 0)) (by repeat (with_reducible first | exact a6.out | refine oneB ?_ | refine yao ?_ k2.out _)) hb); replace b1 := yaa (yac (g := e6) (o := .cells #[.int .i64 i6, .int .i64 i9, .slice k6 g1.length j7] 25 (0, 0)) (by repeat (with_reducible first | exact b1.out | refine oneB ?_ | refine yao ?_ i8.out _)) hb); replace b2 := yaa (yac (g := b6) (o := .cells #[.int .i64 i4, .int .i64 i7, .slice g4 f7.length g2] 25 (0, 0)) (by (repeat refine oneB ?_); refine yam (cs := #[.int .i64 i4, .int .i64 i7, .slice none 0 0]) ?_ 2 _ rfl; refine yam (cs := #[.int .i64 i4, .int .i64 0, .slice none 0 0]) ?_ 1 _ rfl; refine yam (cs := #[.int .i64 0, .int .i64 0, .slice none 0 0]) ?_ 0 _ rfl; exact upB b2.out) hb); replace HB := yaa (yan (by repeat (with_reducible first | exact HB.out | apply yaf | apply yad | apply yae | refine yai ?_ (Aside0.out ‹_›))) hb); (try clear hb); (try clear hb2); (try clear hk); (try clear hi); obtain ⟨w5, w6, w7⟩ := cc3_ b1.out; obtain ⟨w8, w9, x2⟩ := cf3_ b1.out; have cW := k9.out; have cX := j4.out; have cY := n5.out; have cZ := l6.out; have x3 : w57.cell? ⟨d7, 0, none⟩ = some (.int .i64 7) := (ybh a6.out 0).trans rfl; have x4 : w57.cell? ⟨d7, 1, none⟩ = some (.int .i64 (1 + ((l1.length : Int) % 6))) := (ybh a6.out 1).trans rfl; have x5 : w57.cell? ⟨d7, 2, none⟩ = some (.int .i64 (wrap64 (1 + (Int.tmod (wrap64 ((l1.length : Int) / 7)) 6)))) := (ybh a6.out 2).trans rfl; have x6 : w57.cell? ⟨d7, 3, none⟩ = some (.int .i64 0) := (ybh a6.out 3).trans rfl; have x7 : w57.cell? ⟨d7, 4, none⟩ = some (.int .i64 0) := (ybh a6.out 4).trans rfl; obtain ⟨x8, x9, z2, z3⟩ := cf4_ a6.out; have z4 := blk_frozen a6.out 4))
        go_meet
        case rel => exact ⟨_, ((i9 != (wrap64 (1 + (Int.tmod (wrap64 ((l1.length : Int) / 7)) 6))))), (by first | rfl | (simp; done) | (simp [*]; done)), H', ⟨by have := HJ2.out; first | omega | exact Nat.le_refl _⟩, ⟨by (with_reducible repeat (first | apply ybi | apply ybj | apply yay)); exact ybg e9.out (fun _ hk => hk.2)⟩, ⟨by (with_reducible repeat (first | apply yau | apply yav | apply yax)); exact yal j6.out (fun _ hk => by grind)⟩, ⟨Kd.Q_of_R (by (with_reducible repeat (first | apply yap | apply yaq | apply yba)); exact ybk k7.out (fun _ hk => by first | exact hk.2 | exact True.intro))⟩, ⟨by exact upB a5.out⟩, ⟨by exact upB a7.out⟩, ⟨by exact upB a6.out⟩, ⟨by exact upB b1.out⟩, ⟨by exact upB b2.out⟩, ⟨by repeat (with_reducible first | exact HB.out | apply yaf | apply yad | apply yae | refine yai ?_ (Aside0.out ‹_›))⟩⟩
       ·
        rw [if_neg c47] at H
        have o2 : (i6 == (1 + ((l1.length : Int) % 6))) = false := beq_eq_false_iff_ne.mpr c47; have E6 : (i6 != (1 + ((l1.length : Int) % 6))) = true := bne_iff_ne.mpr c47
        (first | rw [o2] | (simp only [i64_w, i32_w]; rw [o2]) | skip)
        have H' := yaa H; clear H; have dA := j5.out; have dB := i5.out; have dC := l7.out; have dD := j8.out; have dE := l8.out; have dF := j9.out; have dG := i8.out; have dH := l9.out; obtain ⟨z5, z6, z7⟩ := cc3_ b1.out; obtain ⟨z8, z9, A2⟩ := cf3_ b1.out; have dI := k0.out; have dJ := h6.out; have dK := m7.out; have dL := k1.out; have dM := m8.out; have dN := k2.out; obtain ⟨A3, A4, A5⟩ := cc3_ b2.out; obtain ⟨A8, B0, B1⟩ := cf3_ b2.out
        go_wp2_with (first | ((with_reducible refine gate_callee (f := 13) rfl ?_); refine gl_ (some 60) rfl Try.func13 #[.agg #[.int .i64 i6, .int .i64 i9, .slice k6 g1.length j7], .agg #[.int .i64 i4, .int .i64 i7, .slice g4 f7.length g2]] ?_; (with_reducible refine (laws_eaRas.calls kj2 i6 i9 _ _ g1 i4 i7 _ _ f7 true _ ?side1 ?side2 ?side3 ?side4 A45.out).mono ?_); (case side1 => refine (ybm (e := 36) (base := w.heap.size) (ok := fun k_ => ((((some k_ ≠ (.slice H2 y117.length H3 : Value).ownBlock ∧ (k_ ≠ d9 ∧ (k_ ≠ d8 ∧ k_ ≠ d7))) ∧ k_ ≠ e6) ∧ some k_ ≠ (.slice g4 f7.length g2 : Value).ownBlock) ∧ k_ ≠ b6)) (n := g1.length) (c := j7) ?_).2.2; exact (by (with_reducible repeat (first | apply yau | apply yav | apply yax)); exact (yal (yat (p := ⟨b6, 2, none⟩) (yat (p := ⟨b6, 1, none⟩) (yat (p := ⟨b6, 0, none⟩) (yal j6.out (fun k_ hk => (⟨hk, hk.2⟩ : _ ∧ k_ ≠ b6))) (fun _ hk => hk.2) (.int .i64 i4)) (fun _ hk => hk.2) (.int .i64 i7)) (fun _ hk => hk.2) (.slice g4 f7.length g2)) (fun _ h_ => h_.1)))); (case side2 => exact (ybm j6.out).2.1); (case side3 => refine (ybl (e := 36) (base := w.heap.size) (ok := fun k_ => (True ∧ some k_ ≠ (.slice g8 e0.length g7 : Value).ownBlock)) (n := f7.length) (c := g2) ?_).2.2; exact (by (with_reducible repeat (first | apply yap | apply yaq | apply yba)); exact (ybk (yaw (p := ⟨b6, 2, none⟩) (yaw (p := ⟨b6, 1, none⟩) (yaw (p := ⟨b6, 0, none⟩) (Kd.R_types k7.out b2.out (by decide)) (fun _ hk => hk.2) (.int .i64 i4)) (fun _ hk => hk.2) (.int .i64 i7)) (fun _ hk => hk.2) (.slice g4 f7.length g2)) (fun _ h_ => h_.1)))); (case side4 => exact (ybl k7.out).2.1); rintro e w71 ⟨rfl, hb⟩; refine ⟨_, rfl, ?_⟩; replace e9 := yaa (yak (by (with_reducible repeat (first | apply ybi | apply ybj | apply yay)); exact (ybg (yah (p := ⟨b6, 2, none⟩) (yah (p := ⟨b6, 1, none⟩) (yah (p := ⟨b6, 0, none⟩) (yab e9.out b2.out (by decide)) (fun _ hk => hk.2) (.int .i64 i4)) (fun _ hk => hk.2) (.int .i64 i7)) (fun _ hk => hk.2) (.slice g4 f7.length g2)) (fun _ h_ => h_.1))) hb); replace j2 := yaa (yas (by (with_reducible repeat (first | apply yap | apply yaq | apply yba)); exact (ybk (yaw (p := ⟨b6, 2, none⟩) (yaw (p := ⟨b6, 1, none⟩) (yaw (p := ⟨b6, 0, none⟩) (Kd.R_types j2.out b2.out (by decide)) (fun _ hk => hk.2) (.int .i64 i4)) (fun _ hk => hk.2) (.int .i64 i7)) (fun _ hk => hk.2) (.slice g4 f7.length g2)) (fun _ h_ => h_.1))) hb); replace j6 := yaa (ybd (by (with_reducible repeat (first | apply yau | apply yav | apply yax)); exact (yal (yat (p := ⟨b6, 2, none⟩) (yat (p := ⟨b6, 1, none⟩) (yat (p := ⟨b6, 0, none⟩) (yal j6.out (fun k_ hk => (⟨hk, hk.2⟩ : _ ∧ k_ ≠ b6))) (fun _ hk => hk.2) (.int .i64 i4)) (fun _ hk => hk.2) (.int .i64 i7)) (fun _ hk => hk.2) (.slice g4 f7.length g2)) (fun _ h_ => h_.1))) hb); replace k7 := yaa (yas (by (with_reducible repeat (first | apply yap | apply yaq | apply yba)); exact (ybk (yaw (p := ⟨b6, 2, none⟩) (yaw (p := ⟨b6, 1, none⟩) (yaw (p := ⟨b6, 0, none⟩) (Kd.R_types k7.out b2.out (by decide)) (fun _ hk => hk.2) (.int .i64 i4)) (fun _ hk => hk.2) (.int .i64 i7)) (fun _ hk => hk.2) (.slice g4 f7.length g2)) (fun _ h_ => h_.1))) hb); replace a5 := yaa (yac (g := d9) (o := .cells #[.int .i64 e3, .int .i64 e4, .slice g8 e0.length g7] 25 (0, 0)) (by repeat (with_reducible first | exact a5.out | refine oneB ?_ | refine yao ?_ h6.out _)) hb); replace a7 := yaa (yac (g := d8) (o := .cells #[.int .i64 k5, .int .i64 k8, .int .i64 l4, .int .i64 m0, .int .i64 m2] 27 (0, 0)) (by repeat (with_reducible first | exact a7.out | refine oneB ?_ | refine yao ?_ k1.out _)) hb); replace a6 := yaa (yac (g := d7) (o := .cells #[.int .i64 7, .int .i64 (1 + ((l1.length : Int) % 6)), .int .i64 (wrap64 (1 + (Int.tmod (wrap64 ((l1.length : Int) / 7)) 6))), .int .i64 0, .int .i64 0] 27 (0, 0)) (by repeat (with_reducible first | exact a6.out | refine oneB ?_ | refine yao ?_ k2.out _)) hb); replace b1 := yaa (yac (g := e6) (o := .cells #[.int .i64 i6, .int .i64 i9, .slice k6 g1.length j7] 25 (0, 0)) (by repeat (with_reducible first | exact b1.out | refine oneB ?_ | refine yao ?_ i8.out _)) hb); replace b2 := yaa (yac (g := b6) (o := .cells #[.int .i64 i4, .int .i64 i7, .slice g4 f7.length g2] 25 (0, 0)) (by (repeat refine oneB ?_); refine yam (cs := #[.int .i64 i4, .int .i64 i7, .slice none 0 0]) ?_ 2 _ rfl; refine yam (cs := #[.int .i64 i4, .int .i64 0, .slice none 0 0]) ?_ 1 _ rfl; refine yam (cs := #[.int .i64 0, .int .i64 0, .slice none 0 0]) ?_ 0 _ rfl; exact upB b2.out) hb); replace HB := yaa (yan (by repeat (with_reducible first | exact HB.out | apply yaf | apply yad | apply yae | refine yai ?_ (Aside0.out ‹_›))) hb); (try clear hb); (try clear hb2); (try clear hk); (try clear hi); obtain ⟨B2, B3, B4⟩ := cc3_ b1.out; obtain ⟨B5, B6, B7⟩ := cf3_ b1.out; have dO := k9.out; have dP := j4.out; have dQ := n5.out; have dR := l6.out; have B8 : w71.cell? ⟨d7, 0, none⟩ = some (.int .i64 7) := (ybh a6.out 0).trans rfl; have B9 : w71.cell? ⟨d7, 1, none⟩ = some (.int .i64 (1 + ((l1.length : Int) % 6))) := (ybh a6.out 1).trans rfl; have C0 : w71.cell? ⟨d7, 2, none⟩ = some (.int .i64 (wrap64 (1 + (Int.tmod (wrap64 ((l1.length : Int) / 7)) 6)))) := (ybh a6.out 2).trans rfl; have C1 : w71.cell? ⟨d7, 3, none⟩ = some (.int .i64 0) := (ybh a6.out 3).trans rfl; have C2 : w71.cell? ⟨d7, 4, none⟩ = some (.int .i64 0) := (ybh a6.out 4).trans rfl; obtain ⟨C3, C4, C5, C6⟩ := cf4_ a6.out; have C7 := blk_frozen a6.out 4))
        go_meet
        case rel => exact ⟨_, (true), (by first | rfl | (simp; done) | (simp [*]; done)), H', ⟨by have := HJ2.out; first | omega | exact Nat.le_refl _⟩, ⟨by (with_reducible repeat (first | apply ybi | apply ybj | apply yay)); exact ybg e9.out (fun _ hk => hk.2)⟩, ⟨by (with_reducible repeat (first | apply yau | apply yav | apply yax)); exact yal j6.out (fun _ hk => by grind)⟩, ⟨Kd.Q_of_R (by (with_reducible repeat (first | apply yap | apply yaq | apply yba)); exact ybk k7.out (fun _ hk => by first | exact hk.2 | exact True.intro))⟩, ⟨by exact upB a5.out⟩, ⟨by exact upB a7.out⟩, ⟨by exact upB a6.out⟩, ⟨by exact upB b1.out⟩, ⟨by exact upB b2.out⟩, ⟨by repeat (with_reducible first | exact HB.out | apply yaf | apply yad | apply yae | refine yai ?_ (Aside0.out ‹_›))⟩⟩
      ·
       replace c46 := Bool.eq_false_iff.mpr c46
       subst c46
       rw [if_neg (show ¬ (false = true) by decide)] at H
       have H' := yaa H; clear H; have dS := j5.out; have dT := i5.out; have dU := l7.out; have dV := j8.out; have dW := l8.out; have dX := j9.out; have dY := i8.out; have dZ := l9.out; obtain ⟨C8, C9, D0⟩ := cc3_ b1.out; obtain ⟨D1, D2, D3⟩ := cf3_ b1.out; have eA := k0.out; have eB := h6.out; have eC := m7.out; have eD := k1.out; have eE := m8.out; have eF := k2.out; obtain ⟨D4, D5, D6⟩ := cc3_ b2.out; obtain ⟨D7, D8, D9⟩ := cf3_ b2.out
       go_wp2_with (first | ((with_reducible refine gate_callee (f := 13) rfl ?_); refine gl_ (some 60) rfl Try.func13 #[.agg #[.int .i64 i6, .int .i64 i9, .slice k6 g1.length j7], .agg #[.int .i64 i4, .int .i64 i7, .slice g4 f7.length g2]] ?_; (with_reducible refine (laws_eaRas.calls kj2 i6 i9 _ _ g1 i4 i7 _ _ f7 false _ ?side1 ?side2 ?side3 ?side4 A45.out).mono ?_); (case side1 => refine (ybm (e := 36) (base := w.heap.size) (ok := fun k_ => ((((some k_ ≠ (.slice H2 y117.length H3 : Value).ownBlock ∧ (k_ ≠ d9 ∧ (k_ ≠ d8 ∧ k_ ≠ d7))) ∧ k_ ≠ e6) ∧ some k_ ≠ (.slice g4 f7.length g2 : Value).ownBlock) ∧ k_ ≠ b6)) (n := g1.length) (c := j7) ?_).2.2; exact (by (with_reducible repeat (first | apply yau | apply yav | apply yax)); exact (yal (yat (p := ⟨b6, 2, none⟩) (yat (p := ⟨b6, 1, none⟩) (yat (p := ⟨b6, 0, none⟩) (yal j6.out (fun k_ hk => (⟨hk, hk.2⟩ : _ ∧ k_ ≠ b6))) (fun _ hk => hk.2) (.int .i64 i4)) (fun _ hk => hk.2) (.int .i64 i7)) (fun _ hk => hk.2) (.slice g4 f7.length g2)) (fun _ h_ => h_.1)))); (case side2 => exact (ybm j6.out).2.1); (case side3 => refine (ybl (e := 36) (base := w.heap.size) (ok := fun k_ => (True ∧ some k_ ≠ (.slice g8 e0.length g7 : Value).ownBlock)) (n := f7.length) (c := g2) ?_).2.2; exact (by (with_reducible repeat (first | apply yap | apply yaq | apply yba)); exact (ybk (yaw (p := ⟨b6, 2, none⟩) (yaw (p := ⟨b6, 1, none⟩) (yaw (p := ⟨b6, 0, none⟩) (Kd.R_types k7.out b2.out (by decide)) (fun _ hk => hk.2) (.int .i64 i4)) (fun _ hk => hk.2) (.int .i64 i7)) (fun _ hk => hk.2) (.slice g4 f7.length g2)) (fun _ h_ => h_.1)))); (case side4 => exact (ybl k7.out).2.1); rintro e w85 ⟨rfl, hb⟩; refine ⟨_, rfl, ?_⟩; replace e9 := yaa (yak (by (with_reducible repeat (first | apply ybi | apply ybj | apply yay)); exact (ybg (yah (p := ⟨b6, 2, none⟩) (yah (p := ⟨b6, 1, none⟩) (yah (p := ⟨b6, 0, none⟩) (yab e9.out b2.out (by decide)) (fun _ hk => hk.2) (.int .i64 i4)) (fun _ hk => hk.2) (.int .i64 i7)) (fun _ hk => hk.2) (.slice g4 f7.length g2)) (fun _ h_ => h_.1))) hb); replace j2 := yaa (yas (by (with_reducible repeat (first | apply yap | apply yaq | apply yba)); exact (ybk (yaw (p := ⟨b6, 2, none⟩) (yaw (p := ⟨b6, 1, none⟩) (yaw (p := ⟨b6, 0, none⟩) (Kd.R_types j2.out b2.out (by decide)) (fun _ hk => hk.2) (.int .i64 i4)) (fun _ hk => hk.2) (.int .i64 i7)) (fun _ hk => hk.2) (.slice g4 f7.length g2)) (fun _ h_ => h_.1))) hb); replace j6 := yaa (ybd (by (with_reducible repeat (first | apply yau | apply yav | apply yax)); exact (yal (yat (p := ⟨b6, 2, none⟩) (yat (p := ⟨b6, 1, none⟩) (yat (p := ⟨b6, 0, none⟩) (yal j6.out (fun k_ hk => (⟨hk, hk.2⟩ : _ ∧ k_ ≠ b6))) (fun _ hk => hk.2) (.int .i64 i4)) (fun _ hk => hk.2) (.int .i64 i7)) (fun _ hk => hk.2) (.slice g4 f7.length g2)) (fun _ h_ => h_.1))) hb); replace k7 := yaa (yas (by (with_reducible repeat (first | apply yap | apply yaq | apply yba)); exact (ybk (yaw (p := ⟨b6, 2, none⟩) (yaw (p := ⟨b6, 1, none⟩) (yaw (p := ⟨b6, 0, none⟩) (Kd.R_types k7.out b2.out (by decide)) (fun _ hk => hk.2) (.int .i64 i4)) (fun _ hk => hk.2) (.int .i64 i7)) (fun _ hk => hk.2) (.slice g4 f7.length g2)) (fun _ h_ => h_.1))) hb); replace a5 := yaa (yac (g := d9) (o := .cells #[.int .i64 e3, .int .i64 e4, .slice g8 e0.length g7] 25 (0, 0)) (by repeat (with_reducible first | exact a5.out | refine oneB ?_ | refine yao ?_ h6.out _)) hb); replace a7 := yaa (yac (g := d8) (o := .cells #[.int .i64 k5, .int .i64 k8, .int .i64 l4, .int .i64 m0, .int .i64 m2] 27 (0, 0)) (by repeat (with_reducible first | exact a7.out | refine oneB ?_ | refine yao ?_ k1.out _)) hb); replace a6 := yaa (yac (g := d7) (o := .cells #[.int .i64 7, .int .i64 (1 + ((l1.length : Int) % 6)), .int .i64 (wrap64 (1 + (Int.tmod (wrap64 ((l1.length : Int) / 7)) 6))), .int .i64 0, .int .i64 0] 27 (0, 0)) (by repeat (with_reducible first | exact a6.out | refine oneB ?_ | refine yao ?_ k2.out _)) hb); replace b1 := yaa (yac (g := e6) (o := .cells #[.int .i64 i6, .int .i64 i9, .slice k6 g1.length j7] 25 (0, 0)) (by repeat (with_reducible first | exact b1.out | refine oneB ?_ | refine yao ?_ i8.out _)) hb); replace b2 := yaa (yac (g := b6) (o := .cells #[.int .i64 i4, .int .i64 i7, .slice g4 f7.length g2] 25 (0, 0)) (by (repeat refine oneB ?_); refine yam (cs := #[.int .i64 i4, .int .i64 i7, .slice none 0 0]) ?_ 2 _ rfl; refine yam (cs := #[.int .i64 i4, .int .i64 0, .slice none 0 0]) ?_ 1 _ rfl; refine yam (cs := #[.int .i64 0, .int .i64 0, .slice none 0 0]) ?_ 0 _ rfl; exact upB b2.out) hb); replace HB := yaa (yan (by repeat (with_reducible first | exact HB.out | apply yaf | apply yad | apply yae | refine yai ?_ (Aside0.out ‹_›))) hb); (try clear hb); (try clear hb2); (try clear hk); (try clear hi)))
       go_meet
       case rel => exact ⟨_, (true), (by first | rfl | (simp; done) | (simp [*]; done)), H', ⟨by have := HJ2.out; first | omega | exact Nat.le_refl _⟩, ⟨by (with_reducible repeat (first | apply ybi | apply ybj | apply yay)); exact ybg e9.out (fun _ hk => hk.2)⟩, ⟨by (with_reducible repeat (first | apply yau | apply yav | apply yax)); exact yal j6.out (fun _ hk => by grind)⟩, ⟨Kd.Q_of_R (by (with_reducible repeat (first | apply yap | apply yaq | apply yba)); exact ybk k7.out (fun _ hk => by first | exact hk.2 | exact True.intro))⟩, ⟨by exact upB a5.out⟩, ⟨by exact upB a7.out⟩, ⟨by exact upB a6.out⟩, ⟨by exact upB b1.out⟩, ⟨by exact upB b2.out⟩, ⟨by repeat (with_reducible first | exact HB.out | apply yaf | apply yad | apply yae | refine yai ?_ (Aside0.out ‹_›))⟩⟩
     case rest =>
      clear HC11; (try clear c1); (try clear c2); (try clear p2); (try clear c3); (try clear c4); (try clear o6); (try clear G7); (try clear c5); (try clear c6); (try clear p6); (try clear c7); (try clear c8); (try clear c10); (try clear c12); (try clear c13); (try clear c15); (try clear c16); (try clear c21); (try clear c22); (try clear c30); (try clear c31); (try clear c32); (try clear c39); (try clear c40); (try clear c41); (try clear c42); (try clear c46); (try clear c47); (try clear o2); (try clear E6); (try clear c48); (try clear c49); (try clear c50); (try clear c51); (try clear c53); (try clear c54); (try clear c55); (try clear c59); (try clear c60); (try clear c62); (try clear c63); (try clear c64); (try clear p64); (try clear c65); (try clear c67); (try clear c68); (try clear c69); (try clear c73); (try clear c74); (try clear c76); (try clear c77); (try clear c78); (try clear c79); (try clear c81); (try clear c82); (try clear c83); (try clear o7); (try clear o8); (try clear o9); (try clear p4); (try clear p5); (try clear p7); (try clear p8); (try clear p9); (try clear q5); (try clear q6); (try clear q7); (try clear q8); (try clear q9); (try clear r5); (try clear r6); (try clear r7); (try clear s1); (try clear s2); (try clear s3); (try clear s7); (try clear s8); (try clear s9); (try clear t3); (try clear t4); (try clear t5); (try clear t6); (try clear t7); (try clear u3); (try clear u4); (try clear u5); (try clear v1); (try clear v2); (try clear v3); (try clear v7); (try clear v8); (try clear v9); (try clear w5); (try clear w6); (try clear w7); (try clear x3); (try clear x4); (try clear x5); (try clear x6); (try clear x7); (try clear z5); (try clear z6); (try clear z7); (try clear A3); (try clear A4); (try clear A5); (try clear B2); (try clear B3); (try clear B4); (try clear B8); (try clear B9); (try clear C0); (try clear C1); (try clear C2); (try clear C8); (try clear C9); (try clear D0); (try clear D4); (try clear D5); (try clear D6); (try clear p0); (try clear p1); (try clear p3); (try clear q0); (try clear q1); (try clear q2); (try clear q3); (try clear q4); (try clear r0); (try clear r1); (try clear r2); (try clear r3); (try clear r4); (try clear r8); (try clear r9); (try clear s0); (try clear s4); (try clear s5); (try clear s6); (try clear t0); (try clear t1); (try clear t2); (try clear t8); (try clear t9); (try clear u0); (try clear u1); (try clear u2); (try clear u6); (try clear u7); (try clear u9); (try clear v4); (try clear v5); (try clear v6); (try clear w2); (try clear w3); (try clear w4); (try clear w8); (try clear w9); (try clear x2); (try clear x8); (try clear x9); (try clear z2); (try clear z3); (try clear z4); (try clear z8); (try clear z9); (try clear A2); (try clear A8); (try clear B0); (try clear B1); (try clear B5); (try clear B6); (try clear B7); (try clear C3); (try clear C4); (try clear C5); (try clear C6); (try clear C7); (try clear D1); (try clear D2); (try clear D3); (try clear D7); (try clear D8); (try clear D9); (try clear p2); obtain ⟨kq, v0, rfl, HA, HJ10, a2, a4, a3, a5, a7, a6, b1, b2, HB⟩ := hcut
      cases kq with
      | zero => exact absurd HA.out (by simp [laws_FnOpSize.j1])
      | succ kj10 =>
       have H := HA.out; clear HA
       simp only [laws_FnOpSize.j1] at H
       by_cases c86 : v0 = true
       ·
        subst c86
        rw [if_pos rfl] at H
        rw [hrt] at H
        exact absurd H (by simp)
       ·
        replace c86 := Bool.eq_false_iff.mpr c86
        subst c86
        rw [if_neg (show ¬ (false = true) by decide)] at H
        have H' := yaa H; clear H
        go_wp2
        (try simp only [Act.put, List.setIfInBounds_toArray, List.set_cons_zero, List.set_cons_succ])
        go_loopg [11] kj10 (fun kq v11 w' => ∃ (h2 : Int), v11 = .int .i64 h2 ∧ ybb (laws_FnOpSize.l0 kq h2 e3 e4 e0 7 (1 + ((l1.length : Int) % 6)) (wrap64 (1 + (Int.tmod (wrap64 ((l1.length : Int) / 7)) 6))) 0 0 i6 i9 g1 = some r) ∧ ybb (kq ≤ kj10) ∧ ybb (Kd.Q k36 36 w' w.heap.size (fun k_ => some k_ ≠ ((.slice g4 f7.length g2) : Value).ownBlock) (.slice g8 e0.length g7) e0) ∧ ybb (Kd.V k36 36 w' w.heap.size (fun k_ => some k_ ≠ ((.slice g4 f7.length g2) : Value).ownBlock ∧ k_ ≠ d9 ∧ k_ ≠ d8 ∧ k_ ≠ d7 ∧ k_ ≠ e6 ∧ k_ ≠ b6) (.slice k6 g1.length j7) g1) ∧ ybb (Kd.Q k36 36 w' w.heap.size (fun k_ => some k_ ≠ ((.slice g8 e0.length g7) : Value).ownBlock) (.slice g4 f7.length g2) f7) ∧ ybb (w'.heap[d9]? = some (.cells #[.int .i64 e3, .int .i64 e4, (.slice g8 e0.length g7)] 25 (0, 0))) ∧ ybb (w'.heap[d8]? = some (.cells #[.int .i64 k5, .int .i64 k8, .int .i64 l4, .int .i64 m0, .int .i64 m2] 27 (0, 0))) ∧ ybb (w'.heap[d7]? = some (.cells #[.int .i64 7, .int .i64 (1 + ((l1.length : Int) % 6)), .int .i64 (wrap64 (1 + (Int.tmod (wrap64 ((l1.length : Int) / 7)) 6))), .int .i64 0, .int .i64 0] 27 (0, 0))) ∧ ybb (w'.heap[e6]? = some (.cells #[.int .i64 i6, .int .i64 i9, (.slice k6 g1.length j7)] 25 (0, 0))) ∧ ybb (w'.heap[b6]? = some (.cells #[.int .i64 i4, .int .i64 i7, (.slice g4 f7.length g2)] 25 (0, 0))) ∧ ybb (Below w.heap.size w w'))
        case atStart => exact ⟨(0), (by first | rfl | (simp; done) | (simp [*]; done)), H', ⟨Nat.le_refl _⟩, ⟨by first | exact a2.out | exact upQ a2.out⟩, ⟨by first | exact a4.out | exact upV a4.out⟩, ⟨by first | exact a3.out | exact upQ a3.out⟩, ⟨by exact upB a5.out⟩, ⟨by exact upB a7.out⟩, ⟨by exact upB a6.out⟩, ⟨by exact upB b1.out⟩, ⟨by exact upB b2.out⟩, ⟨by repeat (with_reducible first | exact HB.out | apply yaf | apply yad | apply yae | refine yai ?_ (Aside0.out ‹_›))⟩⟩
        case round =>
         clear H'; (try clear c1); (try clear c2); (try clear p2); (try clear c3); (try clear c4); (try clear o6); (try clear G7); (try clear c5); (try clear c6); (try clear p6); (try clear c7); (try clear c8); (try clear c10); (try clear c12); (try clear c13); (try clear c15); (try clear c16); (try clear c21); (try clear c22); (try clear c30); (try clear c31); (try clear c32); (try clear c39); (try clear c40); (try clear c41); (try clear c42); (try clear c46); (try clear c47); (try clear o2); (try clear E6); (try clear c48); (try clear c49); (try clear c50); (try clear c51); (try clear c53); (try clear c54); (try clear c55); (try clear c59); (try clear c60); (try clear c62); (try clear c63); (try clear c64); (try clear p64); (try clear c65); (try clear c67); (try clear c68); (try clear c69); (try clear c73); (try clear c74); (try clear c76); (try clear c77); (try clear c78); (try clear c79); (try clear c81); (try clear c82); (try clear c83); (try clear c86); (try clear o7); (try clear o8); (try clear o9); (try clear p4); (try clear p5); (try clear p7); (try clear p8); (try clear p9); (try clear q5); (try clear q6); (try clear q7); (try clear q8); (try clear q9); (try clear r5); (try clear r6); (try clear r7); (try clear s1); (try clear s2); (try clear s3); (try clear s7); (try clear s8); (try clear s9); (try clear t3); (try clear t4); (try clear t5); (try clear t6); (try clear t7); (try clear u3); (try clear u4); (try clear u5); (try clear v1); (try clear v2); (try clear v3); (try clear v7); (try clear v8); (try clear v9); (try clear w5); (try clear w6); (try clear w7); (try clear x3); (try clear x4); (try clear x5); (try clear x6); (try clear x7); (try clear z5); (try clear z6); (try clear z7); (try clear A3); (try clear A4); (try clear A5); (try clear B2); (try clear B3); (try clear B4); (try clear B8); (try clear B9); (try clear C0); (try clear C1); (try clear C2); (try clear C8); (try clear C9); (try clear D0); (try clear D4); (try clear D5); (try clear D6); (try clear p0); (try clear p1); (try clear p3); (try clear q0); (try clear q1); (try clear q2); (try clear q3); (try clear q4); (try clear r0); (try clear r1); (try clear r2); (try clear r3); (try clear r4); (try clear r8); (try clear r9); (try clear s0); (try clear s4); (try clear s5); (try clear s6); (try clear t0); (try clear t1); (try clear t2); (try clear t8); (try clear t9); (try clear u0); (try clear u1); (try clear u2); (try clear u6); (try clear u7); (try clear u9); (try clear v4); (try clear v5); (try clear v6); (try clear w2); (try clear w3); (try clear w4); (try clear w8); (try clear w9); (try clear x2); (try clear x8); (try clear x9); (try clear z2); (try clear z3); (try clear z4); (try clear z8); (try clear z9); (try clear A2); (try clear A8); (try clear B0); (try clear B1); (try clear B5); (try clear B6); (try clear B7); (try clear C3); (try clear C4); (try clear C5); (try clear C6); (try clear C7); (try clear D1); (try clear D2); (try clear D3); (try clear D7); (try clear D8); (try clear D9); (try clear p2); (try clear p6); (try clear p64); obtain ⟨h2, rfl, HA, HK3, a2, a4, a3, a5, a7, a6, b1, b2, HB⟩ := hrel
         cases gk with
         | zero => exact absurd HA.out (by simp [laws_FnOpSize.l0])
         | succ k3 =>
          have H := HA.out; clear HA
          simp only [laws_FnOpSize.l0] at H
          by_cases c87 : h2 < (g1.length : Int)
          ·
           rw [if_pos c87] at H
           have K2 : decide (h2 < (g1.length : Int)) = true := decide_eq_true c87; clear c87; have H' := yaa H; clear H; have eG := j5.out; have eH := i5.out; have eI := l7.out; have eJ := j8.out; have eK := l8.out; have eL := j9.out; have eM := i8.out; have eN := l9.out; obtain ⟨I8, I9, J0⟩ := cc3_ b1.out; obtain ⟨J1, J2, J3⟩ := cf3_ b1.out
           go_wp2
           (try simp only [Act.put, List.setIfInBounds_toArray, List.set_cons_zero, List.set_cons_succ])
           go_loopg [12, 13] k3 (fun kq v12 v13 w' => ∃ (E1 : Bool) (h9 : Int), v12 = .bool E1 ∧ v13 = .int .i64 h9 ∧ ybb (laws_FnOpSize.l1 kq h2 E1 h9 e3 e4 e0 7 (1 + ((l1.length : Int) % 6)) (wrap64 (1 + (Int.tmod (wrap64 ((l1.length : Int) / 7)) 6))) 0 0 i6 i9 g1 = some r) ∧ ybb (kq ≤ k3) ∧ ybb (Kd.Q k36 36 w' w.heap.size (fun k_ => some k_ ≠ ((.slice g4 f7.length g2) : Value).ownBlock) (.slice g8 e0.length g7) e0) ∧ ybb (Kd.V k36 36 w' w.heap.size (fun k_ => some k_ ≠ ((.slice g4 f7.length g2) : Value).ownBlock ∧ k_ ≠ d9 ∧ k_ ≠ d8 ∧ k_ ≠ d7 ∧ k_ ≠ e6 ∧ k_ ≠ b6) (.slice k6 g1.length j7) g1) ∧ ybb (Kd.Q k36 36 w' w.heap.size (fun k_ => some k_ ≠ ((.slice g8 e0.length g7) : Value).ownBlock) (.slice g4 f7.length g2) f7) ∧ ybb (w'.heap[d9]? = some (.cells #[.int .i64 e3, .int .i64 e4, (.slice g8 e0.length g7)] 25 (0, 0))) ∧ ybb (w'.heap[d8]? = some (.cells #[.int .i64 k5, .int .i64 k8, .int .i64 l4, .int .i64 m0, .int .i64 m2] 27 (0, 0))) ∧ ybb (w'.heap[d7]? = some (.cells #[.int .i64 7, .int .i64 (1 + ((l1.length : Int) % 6)), .int .i64 (wrap64 (1 + (Int.tmod (wrap64 ((l1.length : Int) / 7)) 6))), .int .i64 0, .int .i64 0] 27 (0, 0))) ∧ ybb (w'.heap[e6]? = some (.cells #[.int .i64 i6, .int .i64 i9, (.slice k6 g1.length j7)] 25 (0, 0))) ∧ ybb (w'.heap[b6]? = some (.cells #[.int .i64 i4, .int .i64 i7, (.slice g4 f7.length g2)] 25 (0, 0))) ∧ ybb (Below w.heap.size w w'))
           case atStart => exact ⟨(false), (0), (by first | rfl | (simp; done) | (simp [*]; done)), (by first | rfl | (simp; done) | (simp [*]; done)), H', ⟨Nat.le_refl _⟩, ⟨by first | exact a2.out | exact upQ a2.out⟩, ⟨by first | exact a4.out | exact upV a4.out⟩, ⟨by first | exact a3.out | exact upQ a3.out⟩, ⟨by exact upB a5.out⟩, ⟨by exact upB a7.out⟩, ⟨by exact upB a6.out⟩, ⟨by exact upB b1.out⟩, ⟨by exact upB b2.out⟩, ⟨by repeat (with_reducible first | exact HB.out | apply yaf | apply yad | apply yae | refine yai ?_ (Aside0.out ‹_›))⟩⟩
           case round =>
            clear H'; (try clear c1); (try clear c2); (try clear p2); (try clear c3); (try clear c4); (try clear o6); (try clear G7); (try clear c5); (try clear c6); (try clear p6); (try clear c7); (try clear c8); (try clear c9); (try clear c10); (try clear c12); (try clear c13); (try clear c15); (try clear c16); (try clear c21); (try clear c22); (try clear c30); (try clear c31); (try clear c32); (try clear c39); (try clear c40); (try clear c41); (try clear c42); (try clear c46); (try clear c47); (try clear o2); (try clear E6); (try clear c48); (try clear c49); (try clear c50); (try clear c51); (try clear c53); (try clear c54); (try clear c55); (try clear c59); (try clear c60); (try clear c62); (try clear c63); (try clear c64); (try clear p64); (try clear c65); (try clear c67); (try clear c68); (try clear c69); (try clear c73); (try clear c74); (try clear c76); (try clear c77); (try clear c78); (try clear c79); (try clear c81); (try clear c82); (try clear c83); (try clear c86); (try clear c87); (try clear K2); (try clear c88); (try clear c89); (try clear c90); (try clear c91); (try clear o7); (try clear o8); (try clear o9); (try clear p4); (try clear p5); (try clear p7); (try clear p8); (try clear p9); (try clear q5); (try clear q6); (try clear q7); (try clear q8); (try clear q9); (try clear r5); (try clear r6); (try clear r7); (try clear s1); (try clear s2); (try clear s3); (try clear s7); (try clear s8); (try clear s9); (try clear t3); (try clear t4); (try clear t5); (try clear t6); (try clear t7); (try clear u3); (try clear u4); (try clear u5); (try clear v1); (try clear v2); (try clear v3); (try clear v7); (try clear v8); (try clear v9); (try clear w5); (try clear w6); (try clear w7); (try clear x3); (try clear x4); (try clear x5); (try clear x6); (try clear x7); (try clear z5); (try clear z6); (try clear z7); (try clear A3); (try clear A4); (try clear A5); (try clear B2); (try clear B3); (try clear B4); (try clear B8); (try clear B9); (try clear C0); (try clear C1); (try clear C2); (try clear C8); (try clear C9); (try clear D0); (try clear D4); (try clear D5); (try clear D6); (try clear I8); (try clear I9); (try clear J0); (try clear p0); (try clear p1); (try clear p3); (try clear q0); (try clear q1); (try clear q2); (try clear q3); (try clear q4); (try clear r0); (try clear r1); (try clear r2); (try clear r3); (try clear r4); (try clear r8); (try clear r9); (try clear s0); (try clear s4); (try clear s5); (try clear s6); (try clear t0); (try clear t1); (try clear t2); (try clear t8); (try clear t9); (try clear u0); (try clear u1); (try clear u2); (try clear u6); (try clear u7); (try clear u9); (try clear v4); (try clear v5); (try clear v6); (try clear w2); (try clear w3); (try clear w4); (try clear w8); (try clear w9); (try clear x2); (try clear x8); (try clear x9); (try clear z2); (try clear z3); (try clear z4); (try clear z8); (try clear z9); (try clear A2); (try clear A8); (try clear B0); (try clear B1); (try clear B5); (try clear B6); (try clear B7); (try clear C3); (try clear C4); (try clear C5); (try clear C6); (try clear C7); (try clear D1); (try clear D2); (try clear D3); (try clear D7); (try clear D8); (try clear D9); (try clear J1); (try clear J2); (try clear J3); (try clear p2); (try clear p6); (try clear p64); obtain ⟨E1, h9, rfl, rfl, HA, HK4, a2, a4, a3, a5, a7, a6, b1, b2, HB⟩ := hrel
            cases gk with
            | zero => exact absurd HA.out (by simp [laws_FnOpSize.l1])
            | succ k4 =>
             have H := HA.out; clear HA
             simp only [laws_FnOpSize.l1] at H
             by_cases c93 : h9 < (e0.length : Int)
             ·
              rw [if_pos c93] at H
              have N5 : decide (h9 < (e0.length : Int)) = true := decide_eq_true c93; clear c93
              by_cases c94 : E1 = true
              ·
               subst c94
               rw [if_pos rfl] at H
               have H' := yaa H; clear H; have eO := f8.out; have eP := h0.out; have eQ := j4.out; have eR := k9.out; have eS := i5.out; have eT := j5.out; have eU := h6.out; have eV := k0.out; obtain ⟨V3, V4, V5⟩ := cc3_ a5.out; obtain ⟨V6, V7, V8⟩ := cf3_ a5.out
               try go_wp2
               replace a2 := yaa (yay a2.out); replace a4 := yaa (yax a4.out); replace a3 := yaa (yay a3.out); replace a5 := yaa (blk_drew a5.out); replace a7 := yaa (blk_drew a7.out); replace a6 := yaa (blk_drew a6.out); replace b1 := yaa (blk_drew b1.out); replace b2 := yaa (blk_drew b2.out); replace HB := yaa (yae HB.out)
               refine start_ (n := 15) (S := fun w' => True) (ds := []) q4_0 (by kernel_rfl) rfl rfl trivial (fun hHeld => ?_); refine with_tabW laws_FnOpSize.tab18 laws_FnOpSize.bits18 (fun HT_ HW_ => ?_)
               generalize wr.drew = w100 at a2 a4 a3 a5 a7 a6 b1 b2 HB hHeld ⊢
               refine pz_ 0 90 q4_1 HT_ (by kernel_rfl) ?_
               refine pz_ 1 91 q4_2 HT_ (by kernel_rfl) ?_
               refine pure_ (i := 2) (N := some 92) (v := undef) (a' := ?_) q4_3 rfl rfl (any_of HT_.out (by kernel_rfl)) (fun _ _ _ h => h) (Or.inr ⟨by rfl, rfl⟩) ?_ ?_
               rotate_left
               ·
                simp only [Act.put, List.setIfInBounds_toArray, List.set_cons_zero, List.set_cons_succ, i64_w, i32_w]
                rfl
               refine pure_ (i := 3) (N := some 93) (v := undef) (a' := ?_) q4_4 rfl rfl (any_of HT_.out (by kernel_rfl)) (fun _ _ _ h => h) (Or.inr ⟨by rfl, rfl⟩) ?_ ?_
               rotate_left
               ·
                simp only [Act.put, List.setIfInBounds_toArray, List.set_cons_zero, List.set_cons_succ, i64_w, i32_w]
                rfl
               refine pure_ (i := 4) (N := some 94) (v := undef) (a' := ?_) q4_5 rfl rfl (any_of HT_.out (by kernel_rfl)) (fun _ _ _ h => h) (Or.inr ⟨by rfl, rfl⟩) ?_ ?_
               rotate_left
               ·
                simp only [Act.put, List.setIfInBounds_toArray, List.set_cons_zero, List.set_cons_succ, i64_w, i32_w]
                rfl
               refine pure_ (i := 5) (N := some 95) (v := undef) (a' := ?_) q4_6 rfl rfl (any_of HT_.out (by kernel_rfl)) (fun _ _ _ h => h) (Or.inr ⟨by rfl, rfl⟩) ?_ ?_
               rotate_left
               ·
                simp only [Act.put, List.setIfInBounds_toArray, List.set_cons_zero, List.set_cons_succ, i64_w, i32_w]
                rfl
               refine pure_ (i := 6) (N := some 96) (v := undef) (a' := ?_) q4_7 rfl rfl (any_of HT_.out (by kernel_rfl)) (fun _ _ _ h => h) (Or.inr ⟨by rfl, rfl⟩) ?_ ?_
               rotate_left
               ·
                simp only [Act.put, List.setIfInBounds_toArray, List.set_cons_zero, List.set_cons_succ, i64_w, i32_w]
                rfl
               refine pure_ (i := 7) (N := some 97) (v := undef) (a' := ?_) q4_8 rfl rfl (any_of HT_.out (by kernel_rfl)) (fun _ _ _ h => h) (Or.inr ⟨by rfl, rfl⟩) ?_ ?_
               rotate_left
               ·
                simp only [Act.put, List.setIfInBounds_toArray, List.set_cons_zero, List.set_cons_succ, i64_w, i32_w]
                rfl
               refine pure_ (i := 8) (N := some 98) (v := undef) (a' := ?_) q4_9 rfl rfl (any_of HT_.out (by kernel_rfl)) (fun _ _ _ h => h) (Or.inr ⟨by rfl, rfl⟩) ?_ ?_
               rotate_left
               ·
                simp only [Act.put, List.setIfInBounds_toArray, List.set_cons_zero, List.set_cons_succ, i64_w, i32_w]
                rfl
               refine pure_ (i := 9) (N := some 99) (v := undef) (a' := ?_) q4_10 rfl rfl (any_of HT_.out (by kernel_rfl)) (fun _ _ _ h => h) (Or.inr ⟨by rfl, rfl⟩) ?_ ?_
               rotate_left
               ·
                simp only [Act.put, List.setIfInBounds_toArray, List.set_cons_zero, List.set_cons_succ, i64_w, i32_w]
                rfl
               refine pure_ (i := 10) (N := some 100) (v := undef) (a' := ?_) q4_11 rfl rfl (any_of HT_.out (by kernel_rfl)) (fun _ _ _ h => h) (Or.inr ⟨by rfl, rfl⟩) ?_ ?_
               rotate_left
               ·
                simp only [Act.put, List.setIfInBounds_toArray, List.set_cons_zero, List.set_cons_succ, i64_w, i32_w]
                rfl
               refine pure_ (i := 11) (N := some 101) (v := undef) (a' := ?_) q4_12 rfl rfl (any_of HT_.out (by kernel_rfl)) (fun _ _ _ h => h) (Or.inr ⟨by rfl, rfl⟩) ?_ ?_
               rotate_left
               ·
                simp only [Act.put, List.setIfInBounds_toArray, List.set_cons_zero, List.set_cons_succ, i64_w, i32_w]
                rfl
               refine pure_ (i := 12) (N := some 102) (v := undef) (a' := ?_) q4_13 rfl rfl (any_of HT_.out (by kernel_rfl)) (fun _ _ _ h => h) (Or.inr ⟨by rfl, rfl⟩) ?_ ?_
               rotate_left
               ·
                simp only [Act.put, List.setIfInBounds_toArray, List.set_cons_zero, List.set_cons_succ, i64_w, i32_w]
                rfl
               refine pz_ 13 103 q4_14 HT_ (by kernel_rfl) ?_
               refine pz_ 14 12 q4_15 HT_ (by kernel_rfl) ?_
               refine done_ (done_of HT_.out (by kernel_rfl)) ?_
               try go_wp2
               go_roundg k4
               case measure => have := HJ2.out; have := HJ10.out; have := HK3.out; have := HK4.out; omega
               case rel => exact ⟨(true), (wrap64 (h9 + 1)), (by first | rfl | (simp; done) | (simp [*]; done)), (by first | rfl | (simp; done) | (simp [*]; done)), H', ⟨by have := HJ2.out; have := HJ10.out; have := HK3.out; have := HK4.out; omega⟩, ⟨by first | exact a2.out | exact upQ a2.out⟩, ⟨by first | exact a4.out | exact upV a4.out⟩, ⟨by first | exact a3.out | exact upQ a3.out⟩, ⟨by exact upB a5.out⟩, ⟨by exact upB a7.out⟩, ⟨by exact upB a6.out⟩, ⟨by exact upB b1.out⟩, ⟨by exact upB b2.out⟩, ⟨by repeat (with_reducible first | exact HB.out | apply yaf | apply yad | apply yae | refine yai ?_ (Aside0.out ‹_›))⟩⟩
              ·
               replace c94 := Bool.eq_false_iff.mpr c94
               subst c94
               rw [if_neg (show ¬ (false = true) by decide)] at H
               by_cases J4 : 0 ≤ h9
               ·
                rw [if_pos J4] at H
                have W8 : decide (0 ≤ h9) = true := decide_eq_true J4; clear J4
                by_cases J5 : 0 ≤ h2
                ·
                 rw [if_pos J5] at H
                 have W9 : decide (0 ≤ h2) = true := decide_eq_true J5; clear J5
                 by_cases J6 : h2 < (g1.length : Int)
                 ·
                  rw [if_pos J6] at H
                  have X0 : decide (h2 < (g1.length : Int)) = true := decide_eq_true J6; clear J6; have H' := yaa H; clear H; have X1 := f8.out; have X2 := h0.out; have X3 := j4.out; have X4 := k9.out; have X5 := i5.out; have X6 := j5.out; have X7 := h6.out; have X8 := k0.out; obtain ⟨N6, N7, N8⟩ := cc3_ a5.out; obtain ⟨N9, O0, O1⟩ := cf3_ a5.out
                  try go_wp2
                  replace a2 := yaa (yay a2.out); replace a4 := yaa (yax a4.out); replace a3 := yaa (yay a3.out); replace a5 := yaa (blk_drew a5.out); replace a7 := yaa (blk_drew a7.out); replace a6 := yaa (blk_drew a6.out); replace b1 := yaa (blk_drew b1.out); replace b2 := yaa (blk_drew b2.out); replace HB := yaa (yae HB.out)
                  have p134 : 0 ≤ (h9 : Int) := of_decide_eq_true (by first | (with_reducible assumption) | assumption)
                  have q134 : h9 < (e0.length : Int) := of_decide_eq_true (by first | (with_reducible assumption) | assumption)
                  obtain ⟨ad134, X9, E7, E8, E9, F0⟩ := at_T36 (Kd.Q_reads' a2.out).2.2 h9 p134 q134
                  cases X9
                  replace p134 := eq_true p134; replace q134 := eq_true q134
                  have p135 : 0 ≤ (h2 : Int) := of_decide_eq_true (by first | (with_reducible assumption) | assumption)
                  have q135 : h2 < (g1.length : Int) := of_decide_eq_true (by first | (with_reducible assumption) | assumption)
                  obtain ⟨ad135, Y0, F1, F2, F3, F4⟩ := at_T36 (ybm a4.out).2.2 h2 p135 q135
                  cases Y0
                  replace p135 := eq_true p135; replace q135 := eq_true q135
                  refine start_ (n := 15) (S := fun w' => w'.cell? ⟨d9, 0, none⟩ = some (.int .i64 e3) ∧ w'.cell? ⟨d9, 1, none⟩ = some (.int .i64 e4) ∧ w'.cell? ⟨d9, 2, none⟩ = some (.slice (some ad134) e0.length g7) ∧ w'.cell? ⟨e6, 0, none⟩ = some (.int .i64 i6) ∧ w'.cell? ⟨e6, 1, none⟩ = some (.int .i64 i9) ∧ w'.cell? ⟨e6, 2, none⟩ = some (.slice (some ad135) g1.length j7) ∧ w'.cell? (ad134.add ((h9).toNat * 4)) = some (.int .i64 ((rd_T36 e0 h9).f0)) ∧ w'.cell? ⟨(ad134.add ((h9).toNat * 4)).block, (ad134.add ((h9).toNat * 4)).off + 1, none⟩ = some (.int .i64 ((rd_T36 e0 h9).f1)) ∧ w'.cell? ⟨(ad134.add ((h9).toNat * 4)).block, (ad134.add ((h9).toNat * 4)).off + 2, none⟩ = some (.int .i64 ((rd_T36 e0 h9).f2)) ∧ w'.cell? ⟨(ad134.add ((h9).toNat * 4)).block, (ad134.add ((h9).toNat * 4)).off + 3, none⟩ = some (.int .i64 ((rd_T36 e0 h9).f3)) ∧ w'.cell? (ad135.add ((h2).toNat * 4)) = some (.int .i64 ((rd_T36 g1 h2).f0)) ∧ w'.cell? ⟨(ad135.add ((h2).toNat * 4)).block, (ad135.add ((h2).toNat * 4)).off + 1, none⟩ = some (.int .i64 ((rd_T36 g1 h2).f1)) ∧ w'.cell? ⟨(ad135.add ((h2).toNat * 4)).block, (ad135.add ((h2).toNat * 4)).off + 2, none⟩ = some (.int .i64 ((rd_T36 g1 h2).f2)) ∧ w'.cell? ⟨(ad135.add ((h2).toNat * 4)).block, (ad135.add ((h2).toNat * 4)).off + 3, none⟩ = some (.int .i64 ((rd_T36 g1 h2).f3))) (ds := []) q4_0 (by kernel_rfl) rfl rfl ⟨(ybh a5.out 0).trans rfl, (ybh a5.out 1).trans rfl, (ybh a5.out 2).trans rfl, (ybh b1.out 0).trans rfl, (ybh b1.out 1).trans rfl, (ybh b1.out 2).trans rfl, E7, E8, E9, F0, F1, F2, F3, F4⟩ (fun hHeld => ?_); refine with_tabW laws_FnOpSize.tab18 laws_FnOpSize.bits18 (fun HT_ HW_ => ?_)
                  generalize wr.drew = w109 at a2 a4 a3 a5 a7 a6 b1 b2 HB E7 E8 E9 F0 F1 F2 F3 F4 hHeld ⊢
                  refine pz_ 0 90 q4_1 HT_ (by kernel_rfl) ?_
                  refine pz_ 1 91 q4_2 HT_ (by kernel_rfl) ?_
                  refine pz_ 2 92 q4_3 HT_ (by kernel_rfl) ?_
                  refine pz_ 4 94 q4_16 HT_ (by kernel_rfl) ?_
                  refine pz_ 7 97 q4_17 HT_ (by kernel_rfl) ?_
                  refine pz_ 9 99 q4_18 HT_ (by kernel_rfl) ?_
                  refine tz_ 3 93 q4_19 HT_ HW_ (by kernel_rfl) hHeld ?_
                  refine pz_ 5 95 q4_20 HT_ (by kernel_rfl) ?_
                  refine tz_ 6 96 q4_21 HT_ HW_ (by kernel_rfl) hHeld ?_
                  refine tz_ 8 98 q4_10 HT_ HW_ (by kernel_rfl) hHeld ?_
                  refine pz_ 10 100 q4_11 HT_ (by kernel_rfl) ?_
                  refine tz_ 11 101 q4_12 HT_ HW_ (by kernel_rfl) hHeld ?_
                  refine pz_ 12 102 q4_13 HT_ (by kernel_rfl) ?_
                  refine pz_ 13 103 q4_14 HT_ (by kernel_rfl) ?_
                  refine pz_ 14 12 q4_15 HT_ (by kernel_rfl) ?_
                  refine done_ (done_of HT_.out (by kernel_rfl)) ?_
                  try go_wp2
                  go_roundg k4
                  case measure => have := HJ2.out; have := HJ10.out; have := HK3.out; have := HK4.out; omega
                  case rel => exact ⟨((((rd_T36 e0 h9).f0) == ((rd_T36 g1 h2).f0) && (((rd_T36 e0 h9).f1) == ((rd_T36 g1 h2).f1) && (((rd_T36 e0 h9).f2) == ((rd_T36 g1 h2).f2) && (((rd_T36 e0 h9).f3) == ((rd_T36 g1 h2).f3)))))), (wrap64 (h9 + 1)), (by first | rfl | (simp; done) | (simp [*]; done)), (by first | rfl | (simp; done) | (simp [*]; done)), H', ⟨by have := HJ2.out; have := HJ10.out; have := HK3.out; have := HK4.out; omega⟩, ⟨by first | exact a2.out | exact upQ a2.out⟩, ⟨by first | exact a4.out | exact upV a4.out⟩, ⟨by first | exact a3.out | exact upQ a3.out⟩, ⟨by exact upB a5.out⟩, ⟨by exact upB a7.out⟩, ⟨by exact upB a6.out⟩, ⟨by exact upB b1.out⟩, ⟨by exact upB b2.out⟩, ⟨by repeat (with_reducible first | exact HB.out | apply yaf | apply yad | apply yae | refine yai ?_ (Aside0.out ‹_›))⟩⟩
                 ·
                  rw [if_neg J6] at H
                  exact absurd H (by simp)
                ·
                 rw [if_neg J5] at H
                 exact absurd H (by simp)
               ·
                rw [if_neg J4] at H
                exact absurd H (by simp)
             ·
              rw [if_neg c93] at H
              have N5 : decide (h9 < (e0.length : Int)) = false := decide_eq_false c93; clear c93
              by_cases J7 : E1 = true
              ·
               subst J7
               rw [if_pos rfl] at H
               have H' := yaa H; clear H; have Y1 := f8.out; have Y2 := h0.out; have Y3 := j4.out; have Y4 := k9.out; have Y5 := i5.out; have Y6 := j5.out; have Y7 := h6.out; have Y8 := k0.out; obtain ⟨O2, O3, O4⟩ := cc3_ a5.out; obtain ⟨O5, O6, O7⟩ := cf3_ a5.out
               go_wp2
               go_roundg k4
               case measure => have := HJ2.out; have := HJ10.out; have := HK3.out; have := HK4.out; omega
               case rel => exact ⟨(wrap64 (h2 + 1)), (by first | rfl | (simp; done) | (simp [*]; done)), H', ⟨by have := HJ2.out; have := HJ10.out; have := HK3.out; have := HK4.out; omega⟩, ⟨by first | exact a2.out | exact upQ a2.out⟩, ⟨by first | exact a4.out | exact upV a4.out⟩, ⟨by first | exact a3.out | exact upQ a3.out⟩, ⟨by exact upB a5.out⟩, ⟨by exact upB a7.out⟩, ⟨by exact upB a6.out⟩, ⟨by exact upB b1.out⟩, ⟨by exact upB b2.out⟩, ⟨by repeat (with_reducible first | exact HB.out | apply yaf | apply yad | apply yae | refine yai ?_ (Aside0.out ‹_›))⟩⟩
              ·
               replace J7 := Bool.eq_false_iff.mpr J7
               subst J7
               rw [if_neg (show ¬ (false = true) by decide)] at H
               rw [hrt] at H
               exact absurd H (by simp)
          ·
           rw [if_neg c87] at H
           have K2 : decide (h2 < (g1.length : Int)) = false := decide_eq_false c87; clear c87; obtain ⟨y138, hy138⟩ : ∃ y_ : List (S27), y_ = (([(⟨7, e3, e4, 0, 0⟩ : S27)] : List (S27))) := ⟨_, rfl⟩
           conv at H => enter [1, 1, 5]; rw [← hy138]
           have Ny138 := yaa hy138; clear hy138; replace H := Option.bind_eq_some_iff.mp H; obtain ⟨⟨H4, H5, H6⟩, K3, H⟩ := H; (try dsimp only at H); have Y9 := yaa K3; clear K3; replace H := Option.bind_eq_some_iff.mp H; obtain ⟨Z0, K4, H⟩ := H; (try dsimp only at H); have Z1 := yaa K4; clear K4
           by_cases J8 : Z0 = true
           ·
            subst J8
            rw [if_pos rfl] at H
            obtain ⟨y147, hy147⟩ : ∃ y_ : List (S27), y_ = (([(⟨5, 0, 0, 0, 0⟩ : S27)] : List (S27))) := ⟨_, rfl⟩
            conv at H => enter [1, 1, 5]; rw [← hy147]
            have Ny147 := yaa hy147; clear hy147; replace H := Option.bind_eq_some_iff.mp H; obtain ⟨⟨H7, H8, F5⟩, K5, H⟩ := H; (try dsimp only at H); have Z2 := yaa K5; clear K5; obtain ⟨y155, hy155⟩ : ∃ y_ : List (S27), y_ = (([(⟨5, 0, 0, 0, 0⟩ : S27), (⟨7, (1 + ((l1.length : Int) % 6)), (wrap64 (1 + (Int.tmod (wrap64 ((l1.length : Int) / 7)) 6))), 0, 0⟩ : S27)] : List (S27))) := ⟨_, rfl⟩
            conv at H => enter [1, 1, 5]; rw [← hy155]
            have Ny155 := yaa hy155; clear hy155; replace H := Option.bind_eq_some_iff.mp H; obtain ⟨⟨H9, I0, I1⟩, K6, H⟩ := H; (try dsimp only at H); have Z3 := yaa K6; clear K6; replace H := Option.bind_eq_some_iff.mp H; obtain ⟨o3, K7, H⟩ := H; (try dsimp only at H); have Z4 := yaa K7; clear K7; obtain rfl := Option.some.inj H; have Z5 := j5.out; have Z6 := i5.out; have Z7 := l7.out; have Z8 := j8.out; have Z9 := l8.out; have aA := j9.out; have aB := i8.out; have aC := l9.out; obtain ⟨O8, O9, P0⟩ := cc3_ b1.out; obtain ⟨P1, P2, P3⟩ := cf3_ b1.out
            try go_wp2_with (first | ((with_reducible refine gate_dst (N := 14) rfl ?_); (try (refine gate_guard (by rfl) ?_; dsimp only)); refine bx_ 14 #[.int .i64 0, .int .i64 0, .int .i64 0, .int .i64 0, .int .i64 0] 27 ?_; intro f6 hg w127 hbox hb; replace a2 := yaa (yak (upQ a2.out) hb); replace a4 := yaa (ybd (Kd.V_elderB (upV a4.out) f6 (Nat.le_of_eq hg.symm)) hb); replace a3 := yaa (yak (upQ a3.out) hb); have b4 := yaa (hbox); have P4 := yaa ((by rw [hg]; exact (ybc (by repeat (with_reducible first | exact HB.out | apply yaf | apply yad | apply yae | refine yai ?_ (Aside0.out ‹_›)))) : w.heap.size ≤ f6)); replace HB := yaa (yan (by repeat (with_reducible first | exact HB.out | apply yaf | apply yad | apply yae | refine yai ?_ (Aside0.out ‹_›))) hb); have eW := P4; have m9 := yaa ((by rw [hg]; exact Nat.ne_of_lt (blk_lt (upB a5.out)) : d9 ≠ f6)); replace a5 := yaa (yac (upB a5.out) hb); have F6 := yaa m9.out.symm; have n0 := yaa ((by rw [hg]; exact Nat.ne_of_lt (blk_lt (upB a7.out)) : d8 ≠ f6)); replace a7 := yaa (yac (upB a7.out) hb); have F7 := yaa n0.out.symm; have n1 := yaa ((by rw [hg]; exact Nat.ne_of_lt (blk_lt (upB a6.out)) : d7 ≠ f6)); replace a6 := yaa (yac (upB a6.out) hb); have F8 := yaa n1.out.symm; have n2 := yaa ((by rw [hg]; exact Nat.ne_of_lt (blk_lt (upB b1.out)) : e6 ≠ f6)); replace b1 := yaa (yac (upB b1.out) hb); have F9 := yaa n2.out.symm; have n3 := yaa ((by rw [hg]; exact Nat.ne_of_lt (blk_lt (upB b2.out)) : b6 ≠ f6)); replace b2 := yaa (yac (upB b2.out) hb); have G0 := yaa n3.out.symm; clear hb hbox hg; have aD := F6.out; have aE := m9.out; have aF := F7.out; have aG := n0.out; have aH := F8.out; have aI := n1.out; have aJ := F9.out; have aK := n2.out; have aL := G0.out; have aM := n3.out; obtain ⟨P5, P6, P7, P8, P9⟩ := cc5_ b4.out; obtain ⟨Q0, Q1, Q3, Q4, Q5⟩ := cf5_ b4.out; have aN := f8.out; have aO := h0.out; have aP := j4.out; have aQ := k9.out; have aR := h6.out; have aS := k0.out; obtain ⟨Q6, Q7, Q8⟩ := cc3_ a5.out; obtain ⟨Q9, R0⟩ := cf2_ a5.out; have R1 := blk_frozen a5.out 2) | ((with_reducible refine gate_dst (N := 15) rfl ?_); (try (refine gate_guard (by rfl) ?_; dsimp only)); refine bx_ 15 #[.int .i64 0, .int .i64 0, .int .i64 0, .int .i64 0, .int .i64 0] 27 ?_; intro b3 hg w138 hbox hb; replace a2 := yaa (yak (by (with_reducible repeat (first | apply ybi | apply ybj | apply yay)); exact (ybg (yah (p := ⟨f6, 4, none⟩) (yah (p := ⟨f6, 3, none⟩) (yah (p := ⟨f6, 2, none⟩) (yah (p := ⟨f6, 1, none⟩) (yah (p := ⟨f6, 0, none⟩) (yab a2.out b4.out (by decide)) (fun _ hk => hk.2) (.int .i64 5)) (fun _ hk => hk.2) (.int .i64 0)) (fun _ hk => hk.2) (.int .i64 0)) (fun _ hk => hk.2) (.int .i64 0)) (fun _ hk => hk.2) (.int .i64 0)) (fun _ h_ => h_.1))) hb); replace a4 := yaa (ybd (Kd.V_elderB (by (with_reducible repeat (first | apply yau | apply yav | apply yax)); exact (yal (yat (p := ⟨f6, 4, none⟩) (yat (p := ⟨f6, 3, none⟩) (yat (p := ⟨f6, 2, none⟩) (yat (p := ⟨f6, 1, none⟩) (yat (p := ⟨f6, 0, none⟩) (yal a4.out (fun k_ hk => (⟨hk, hk.2⟩ : _ ∧ k_ ≠ f6))) (fun _ hk => hk.2) (.int .i64 5)) (fun _ hk => hk.2) (.int .i64 0)) (fun _ hk => hk.2) (.int .i64 0)) (fun _ hk => hk.2) (.int .i64 0)) (fun _ hk => hk.2) (.int .i64 0)) (fun _ h_ => h_.1))) b3 (Nat.le_of_eq hg.symm)) hb); replace a3 := yaa (yak (by (with_reducible repeat (first | apply ybi | apply ybj | apply yay)); exact (ybg (yah (p := ⟨f6, 4, none⟩) (yah (p := ⟨f6, 3, none⟩) (yah (p := ⟨f6, 2, none⟩) (yah (p := ⟨f6, 1, none⟩) (yah (p := ⟨f6, 0, none⟩) (yab a3.out b4.out (by decide)) (fun _ hk => hk.2) (.int .i64 5)) (fun _ hk => hk.2) (.int .i64 0)) (fun _ hk => hk.2) (.int .i64 0)) (fun _ hk => hk.2) (.int .i64 0)) (fun _ hk => hk.2) (.int .i64 0)) (fun _ h_ => h_.1))) hb); have b5 := yaa (hbox); have R2 := yaa ((by rw [hg]; exact (ybc (by repeat (with_reducible first | exact HB.out | apply yaf | apply yad | apply yae | refine yai ?_ (Aside0.out ‹_›)))) : w.heap.size ≤ b3)); replace HB := yaa (yan (by repeat (with_reducible first | exact HB.out | apply yaf | apply yad | apply yae | refine yai ?_ (Aside0.out ‹_›))) hb); have eX := R2; have n6 := yaa ((by rw [hg]; exact Nat.ne_of_lt (blk_lt (g := d9) (o := .cells #[.int .i64 e3, .int .i64 e4, .slice g8 e0.length g7] 25 (0, 0)) (by repeat (with_reducible first | exact a5.out | refine oneB ?_ | refine yao ?_ m9.out _))) : d9 ≠ b3)); replace a5 := yaa (yac (g := d9) (o := .cells #[.int .i64 e3, .int .i64 e4, .slice g8 e0.length g7] 25 (0, 0)) (by repeat (with_reducible first | exact a5.out | refine oneB ?_ | refine yao ?_ m9.out _)) hb); have G1 := yaa n6.out.symm; have n7 := yaa ((by rw [hg]; exact Nat.ne_of_lt (blk_lt (g := d8) (o := .cells #[.int .i64 k5, .int .i64 k8, .int .i64 l4, .int .i64 m0, .int .i64 m2] 27 (0, 0)) (by repeat (with_reducible first | exact a7.out | refine oneB ?_ | refine yao ?_ n0.out _))) : d8 ≠ b3)); replace a7 := yaa (yac (g := d8) (o := .cells #[.int .i64 k5, .int .i64 k8, .int .i64 l4, .int .i64 m0, .int .i64 m2] 27 (0, 0)) (by repeat (with_reducible first | exact a7.out | refine oneB ?_ | refine yao ?_ n0.out _)) hb); have G2 := yaa n7.out.symm; have n8 := yaa ((by rw [hg]; exact Nat.ne_of_lt (blk_lt (g := d7) (o := .cells #[.int .i64 7, .int .i64 (1 + ((l1.length : Int) % 6)), .int .i64 (wrap64 (1 + (Int.tmod (wrap64 ((l1.length : Int) / 7)) 6))), .int .i64 0, .int .i64 0] 27 (0, 0)) (by repeat (with_reducible first | exact a6.out | refine oneB ?_ | refine yao ?_ n1.out _))) : d7 ≠ b3)); replace a6 := yaa (yac (g := d7) (o := .cells #[.int .i64 7, .int .i64 (1 + ((l1.length : Int) % 6)), .int .i64 (wrap64 (1 + (Int.tmod (wrap64 ((l1.length : Int) / 7)) 6))), .int .i64 0, .int .i64 0] 27 (0, 0)) (by repeat (with_reducible first | exact a6.out | refine oneB ?_ | refine yao ?_ n1.out _)) hb); have G3 := yaa n8.out.symm; have n9 := yaa ((by rw [hg]; exact Nat.ne_of_lt (blk_lt (g := e6) (o := .cells #[.int .i64 i6, .int .i64 i9, .slice k6 g1.length j7] 25 (0, 0)) (by repeat (with_reducible first | exact b1.out | refine oneB ?_ | refine yao ?_ n2.out _))) : e6 ≠ b3)); replace b1 := yaa (yac (g := e6) (o := .cells #[.int .i64 i6, .int .i64 i9, .slice k6 g1.length j7] 25 (0, 0)) (by repeat (with_reducible first | exact b1.out | refine oneB ?_ | refine yao ?_ n2.out _)) hb); have G4 := yaa n9.out.symm; have o0 := yaa ((by rw [hg]; exact Nat.ne_of_lt (blk_lt (g := b6) (o := .cells #[.int .i64 i4, .int .i64 i7, .slice g4 f7.length g2] 25 (0, 0)) (by repeat (with_reducible first | exact b2.out | refine oneB ?_ | refine yao ?_ n3.out _))) : b6 ≠ b3)); replace b2 := yaa (yac (g := b6) (o := .cells #[.int .i64 i4, .int .i64 i7, .slice g4 f7.length g2] 25 (0, 0)) (by repeat (with_reducible first | exact b2.out | refine oneB ?_ | refine yao ?_ n3.out _)) hb); have G5 := yaa o0.out.symm; have o1 := yaa ((by rw [hg]; exact Nat.ne_of_lt (blk_lt (g := f6) (o := .cells #[.int .i64 5, .int .i64 0, .int .i64 0, .int .i64 0, .int .i64 0] 27 (0, 0)) (by (repeat refine oneB ?_); refine yam (cs := #[.int .i64 5, .int .i64 0, .int .i64 0, .int .i64 0, .int .i64 0]) ?_ 4 _ rfl; refine yam (cs := #[.int .i64 5, .int .i64 0, .int .i64 0, .int .i64 0, .int .i64 0]) ?_ 3 _ rfl; refine yam (cs := #[.int .i64 5, .int .i64 0, .int .i64 0, .int .i64 0, .int .i64 0]) ?_ 2 _ rfl; refine yam (cs := #[.int .i64 5, .int .i64 0, .int .i64 0, .int .i64 0, .int .i64 0]) ?_ 1 _ rfl; refine yam (cs := #[.int .i64 0, .int .i64 0, .int .i64 0, .int .i64 0, .int .i64 0]) ?_ 0 _ rfl; exact upB b4.out)) : f6 ≠ b3)); replace b4 := yaa (yac (g := f6) (o := .cells #[.int .i64 5, .int .i64 0, .int .i64 0, .int .i64 0, .int .i64 0] 27 (0, 0)) (by (repeat refine oneB ?_); refine yam (cs := #[.int .i64 5, .int .i64 0, .int .i64 0, .int .i64 0, .int .i64 0]) ?_ 4 _ rfl; refine yam (cs := #[.int .i64 5, .int .i64 0, .int .i64 0, .int .i64 0, .int .i64 0]) ?_ 3 _ rfl; refine yam (cs := #[.int .i64 5, .int .i64 0, .int .i64 0, .int .i64 0, .int .i64 0]) ?_ 2 _ rfl; refine yam (cs := #[.int .i64 5, .int .i64 0, .int .i64 0, .int .i64 0, .int .i64 0]) ?_ 1 _ rfl; refine yam (cs := #[.int .i64 0, .int .i64 0, .int .i64 0, .int .i64 0, .int .i64 0]) ?_ 0 _ rfl; exact upB b4.out) hb); have G6 := yaa o1.out.symm; clear hb hbox hg; have aT := G1.out; have aU := n6.out; have aV := G2.out; have aW := n7.out; have aX := G3.out; have aY := n8.out; have aZ := G4.out; have bA := n9.out; have bB := G5.out; have bC := o0.out; have bD := G6.out; have bE := o1.out; obtain ⟨R3, R4, R5, R6, R7⟩ := cc5_ b5.out; obtain ⟨R8, R9, S0, S1⟩ := cf4_ b5.out; have S2 := blk_frozen b5.out 4))
            have n0_ : ybb (Kd.Q k36 36 (((((w138.setCell ⟨b3, 0, none⟩ (.int .i64 7)).setCell ⟨b3, 1, none⟩ (.int .i64 e3)).setCell ⟨b3, 2, none⟩ (.int .i64 e4)).setCell ⟨b3, 3, none⟩ (.int .i64 0)).setCell ⟨b3, 4, none⟩ (.int .i64 0)) w.heap.size (fun k_ => some k_ ≠ (.slice g4 f7.length g2 : Value).ownBlock) (.slice g8 e0.length g7) e0) := ⟨by (with_reducible repeat (first | apply ybi | apply ybj | apply yay)); exact ybg (yah (p := ⟨b3, 4, none⟩) (yah (p := ⟨b3, 3, none⟩) (yah (p := ⟨b3, 2, none⟩) (yah (p := ⟨b3, 1, none⟩) (yah (p := ⟨b3, 0, none⟩) (yab a2.out b5.out (by decide)) (fun _ hk => hk.2) (.int .i64 7)) (fun _ hk => hk.2) (.int .i64 e3)) (fun _ hk => hk.2) (.int .i64 e4)) (fun _ hk => hk.2) (.int .i64 0)) (fun _ hk => hk.2) (.int .i64 0)) (fun _ hk => hk.1)⟩
            have n1_ : ybb (Kd.V k36 36 (((((w138.setCell ⟨b3, 0, none⟩ (.int .i64 7)).setCell ⟨b3, 1, none⟩ (.int .i64 e3)).setCell ⟨b3, 2, none⟩ (.int .i64 e4)).setCell ⟨b3, 3, none⟩ (.int .i64 0)).setCell ⟨b3, 4, none⟩ (.int .i64 0)) w.heap.size (fun k_ => some k_ ≠ (.slice g4 f7.length g2 : Value).ownBlock ∧ k_ ≠ d9 ∧ k_ ≠ d8 ∧ k_ ≠ d7 ∧ k_ ≠ e6 ∧ k_ ≠ b6 ∧ k_ ≠ f6 ∧ k_ ≠ b3) (.slice k6 g1.length j7) g1) := ⟨by (with_reducible repeat (first | apply yau | apply yav | apply yax)); exact yal (yat (p := ⟨b3, 4, none⟩) (yat (p := ⟨b3, 3, none⟩) (yat (p := ⟨b3, 2, none⟩) (yat (p := ⟨b3, 1, none⟩) (yat (p := ⟨b3, 0, none⟩) (yal a4.out (fun k_ hk => (⟨hk, hk.2⟩ : _ ∧ k_ ≠ b3))) (fun _ hk => hk.2) (.int .i64 7)) (fun _ hk => hk.2) (.int .i64 e3)) (fun _ hk => hk.2) (.int .i64 e4)) (fun _ hk => hk.2) (.int .i64 0)) (fun _ hk => hk.2) (.int .i64 0)) (fun _ hk => by grind)⟩
            have n2_ : ybb (Kd.Q k36 36 (((((w138.setCell ⟨b3, 0, none⟩ (.int .i64 7)).setCell ⟨b3, 1, none⟩ (.int .i64 e3)).setCell ⟨b3, 2, none⟩ (.int .i64 e4)).setCell ⟨b3, 3, none⟩ (.int .i64 0)).setCell ⟨b3, 4, none⟩ (.int .i64 0)) w.heap.size (fun k_ => some k_ ≠ (.slice g8 e0.length g7 : Value).ownBlock) (.slice g4 f7.length g2) f7) := ⟨by (with_reducible repeat (first | apply ybi | apply ybj | apply yay)); exact ybg (yah (p := ⟨b3, 4, none⟩) (yah (p := ⟨b3, 3, none⟩) (yah (p := ⟨b3, 2, none⟩) (yah (p := ⟨b3, 1, none⟩) (yah (p := ⟨b3, 0, none⟩) (yab a3.out b5.out (by decide)) (fun _ hk => hk.2) (.int .i64 7)) (fun _ hk => hk.2) (.int .i64 e3)) (fun _ hk => hk.2) (.int .i64 e4)) (fun _ hk => hk.2) (.int .i64 0)) (fun _ hk => hk.2) (.int .i64 0)) (fun _ hk => hk.1)⟩
            have n3_ : ybb ((((((w138.setCell ⟨b3, 0, none⟩ (.int .i64 7)).setCell ⟨b3, 1, none⟩ (.int .i64 e3)).setCell ⟨b3, 2, none⟩ (.int .i64 e4)).setCell ⟨b3, 3, none⟩ (.int .i64 0)).setCell ⟨b3, 4, none⟩ (.int .i64 0)).heap[d9]? = some (.cells #[.int .i64 e3, .int .i64 e4, .slice g8 e0.length g7] 25 (0, 0))) := ⟨by repeat (with_reducible first | exact a5.out | refine oneB ?_ | refine yao ?_ n6.out _)⟩
            have n4_ : ybb ((((((w138.setCell ⟨b3, 0, none⟩ (.int .i64 7)).setCell ⟨b3, 1, none⟩ (.int .i64 e3)).setCell ⟨b3, 2, none⟩ (.int .i64 e4)).setCell ⟨b3, 3, none⟩ (.int .i64 0)).setCell ⟨b3, 4, none⟩ (.int .i64 0)).heap[d8]? = some (.cells #[.int .i64 k5, .int .i64 k8, .int .i64 l4, .int .i64 m0, .int .i64 m2] 27 (0, 0))) := ⟨by repeat (with_reducible first | exact a7.out | refine oneB ?_ | refine yao ?_ n7.out _)⟩
            have n5_ : ybb ((((((w138.setCell ⟨b3, 0, none⟩ (.int .i64 7)).setCell ⟨b3, 1, none⟩ (.int .i64 e3)).setCell ⟨b3, 2, none⟩ (.int .i64 e4)).setCell ⟨b3, 3, none⟩ (.int .i64 0)).setCell ⟨b3, 4, none⟩ (.int .i64 0)).heap[d7]? = some (.cells #[.int .i64 7, .int .i64 (1 + ((l1.length : Int) % 6)), .int .i64 (wrap64 (1 + (Int.tmod (wrap64 ((l1.length : Int) / 7)) 6))), .int .i64 0, .int .i64 0] 27 (0, 0))) := ⟨by repeat (with_reducible first | exact a6.out | refine oneB ?_ | refine yao ?_ n8.out _)⟩
            have n6_ : ybb ((((((w138.setCell ⟨b3, 0, none⟩ (.int .i64 7)).setCell ⟨b3, 1, none⟩ (.int .i64 e3)).setCell ⟨b3, 2, none⟩ (.int .i64 e4)).setCell ⟨b3, 3, none⟩ (.int .i64 0)).setCell ⟨b3, 4, none⟩ (.int .i64 0)).heap[e6]? = some (.cells #[.int .i64 i6, .int .i64 i9, .slice k6 g1.length j7] 25 (0, 0))) := ⟨by repeat (with_reducible first | exact b1.out | refine oneB ?_ | refine yao ?_ n9.out _)⟩
            have n7_ : ybb ((((((w138.setCell ⟨b3, 0, none⟩ (.int .i64 7)).setCell ⟨b3, 1, none⟩ (.int .i64 e3)).setCell ⟨b3, 2, none⟩ (.int .i64 e4)).setCell ⟨b3, 3, none⟩ (.int .i64 0)).setCell ⟨b3, 4, none⟩ (.int .i64 0)).heap[b6]? = some (.cells #[.int .i64 i4, .int .i64 i7, .slice g4 f7.length g2] 25 (0, 0))) := ⟨by repeat (with_reducible first | exact b2.out | refine oneB ?_ | refine yao ?_ o0.out _)⟩
            have n8_ : ybb ((((((w138.setCell ⟨b3, 0, none⟩ (.int .i64 7)).setCell ⟨b3, 1, none⟩ (.int .i64 e3)).setCell ⟨b3, 2, none⟩ (.int .i64 e4)).setCell ⟨b3, 3, none⟩ (.int .i64 0)).setCell ⟨b3, 4, none⟩ (.int .i64 0)).heap[f6]? = some (.cells #[.int .i64 5, .int .i64 0, .int .i64 0, .int .i64 0, .int .i64 0] 27 (0, 0))) := ⟨by repeat (with_reducible first | exact b4.out | refine oneB ?_ | refine yao ?_ o1.out _)⟩
            have n9_ : ybb ((((((w138.setCell ⟨b3, 0, none⟩ (.int .i64 7)).setCell ⟨b3, 1, none⟩ (.int .i64 e3)).setCell ⟨b3, 2, none⟩ (.int .i64 e4)).setCell ⟨b3, 3, none⟩ (.int .i64 0)).setCell ⟨b3, 4, none⟩ (.int .i64 0)).heap[b3]? = some (.cells #[.int .i64 7, .int .i64 e3, .int .i64 e4, .int .i64 0, .int .i64 0] 27 (0, 0))) := ⟨by (repeat refine oneB ?_); refine yam (cs := #[.int .i64 7, .int .i64 e3, .int .i64 e4, .int .i64 0, .int .i64 0]) ?_ 4 _ rfl; refine yam (cs := #[.int .i64 7, .int .i64 e3, .int .i64 e4, .int .i64 0, .int .i64 0]) ?_ 3 _ rfl; refine yam (cs := #[.int .i64 7, .int .i64 e3, .int .i64 0, .int .i64 0, .int .i64 0]) ?_ 2 _ rfl; refine yam (cs := #[.int .i64 7, .int .i64 0, .int .i64 0, .int .i64 0, .int .i64 0]) ?_ 1 _ rfl; refine yam (cs := #[.int .i64 0, .int .i64 0, .int .i64 0, .int .i64 0, .int .i64 0]) ?_ 0 _ rfl; exact upB b5.out⟩
            have l2 : ybb (Below w.heap.size w (((((w138.setCell ⟨b3, 0, none⟩ (.int .i64 7)).setCell ⟨b3, 1, none⟩ (.int .i64 e3)).setCell ⟨b3, 2, none⟩ (.int .i64 e4)).setCell ⟨b3, 3, none⟩ (.int .i64 0)).setCell ⟨b3, 4, none⟩ (.int .i64 0))) := ⟨by repeat (with_reducible first | exact HB.out | apply yaf | apply yad | apply yae | refine yai ?_ (Aside0.out ‹_›))⟩
            (try clear a2); (try clear a4); (try clear a3); (try clear a5); (try clear a7); (try clear a6); (try clear b1); (try clear b2); (try clear b4); (try clear b5); (try clear HB)
            generalize (((((w138.setCell ⟨b3, 0, none⟩ (.int .i64 7)).setCell ⟨b3, 1, none⟩ (.int .i64 e3)).setCell ⟨b3, 2, none⟩ (.int .i64 e4)).setCell ⟨b3, 3, none⟩ (.int .i64 0)).setCell ⟨b3, 4, none⟩ (.int .i64 0)) = w146 at n0_ n1_ n2_ n3_ n4_ n5_ n6_ n7_ n8_ n9_ l2 ⊢
            have a2 := n0_; have a4 := n1_; have a3 := n2_; have a5 := n3_; have a7 := n4_; have a6 := n5_; have b1 := n6_; have b2 := n7_; have b4 := n8_; have b5 := n9_; have HB := l2; clear n0_ n1_ n2_ n3_ n4_ n5_ n6_ n7_ n8_ n9_ l2; replace a2 := yaa (yay a2.out); replace a4 := yaa (yax a4.out); replace a3 := yaa (yay a3.out); replace a5 := yaa (blk_drew a5.out); replace a7 := yaa (blk_drew a7.out); replace a6 := yaa (blk_drew a6.out); replace b1 := yaa (blk_drew b1.out); replace b2 := yaa (blk_drew b2.out); replace b4 := yaa (blk_drew b4.out); replace b5 := yaa (blk_drew b5.out); replace HB := yaa (yae HB.out)
            refine start_ (n := 19) (S := fun w' => True) (ds := []) q4_22 (by kernel_rfl) rfl rfl trivial (fun hHeld => ?_); refine with_tabW laws_FnOpSize.tab23 laws_FnOpSize.bits23 (fun HT_ HW_ => ?_)
            generalize w146.drew = w147 at a2 a4 a3 a5 a7 a6 b1 b2 b4 b5 HB hHeld ⊢
            refine inv_at [0, 1, 2, 3, 4, 5, 6, 7, 8, 9, 10, 11, 12, 13, 14, 15, 16, 17, 18] (fun a0_ b a w' => ∃ (h7 : Value) (i0 : Value) (h4 : Value) (h8 : Value) (h5 : Value) (i1 : Value) (m3_ : Value) (i2 : Value) (i3 : Value), a = putSel a0_ b [(0, 112, .agg #[.int .i64 e3, .int .i64 e4, .slice g8 e0.length g7]), (1, 113, .agg #[.int .i64 7, .int .i64 e3, .int .i64 e4, .int .i64 0, .int .i64 0]), (2, 114, h7), (3, 115, m3_), (4, 116, .agg #[.int .i64 e3, .int .i64 e4, .slice g8 e0.length g7]), (5, 117, .bool true), (6, 118, .bool true), (7, 119, .agg #[.int .i64 i6, .int .i64 i9, .slice k6 g1.length j7]), (8, 120, .agg #[.int .i64 5, .int .i64 0, .int .i64 0, .int .i64 0, .int .i64 0]), (9, 121, h4), (10, 122, i2), (11, 123, .agg #[.int .i64 e3, .int .i64 e4, .slice g8 e0.length g7]), (12, 124, .agg #[.int .i64 5, .int .i64 0, .int .i64 0, .int .i64 0, .int .i64 0]), (13, 125, .agg #[.int .i64 7, .int .i64 (1 + ((l1.length : Int) % 6)), .int .i64 (wrap64 (1 + (Int.tmod (wrap64 ((l1.length : Int) / 7)) 6))), .int .i64 0, .int .i64 0]), (14, 126, h5), (15, 127, i3), (16, 128, .bool o3), (17, 129, .bool o3), (18, 4, .bool o3)] ∧ (Kd.Q k36 36 w' w.heap.size (fun k_ => some k_ ≠ (.slice g4 f7.length g2 : Value).ownBlock) (.slice g8 e0.length g7) e0) ∧ (Kd.V k36 36 w' w.heap.size (fun k_ => some k_ ≠ (.slice g4 f7.length g2 : Value).ownBlock ∧ k_ ≠ d9 ∧ k_ ≠ d8 ∧ k_ ≠ d7 ∧ k_ ≠ e6 ∧ k_ ≠ b6 ∧ k_ ≠ f6 ∧ k_ ≠ b3) (.slice k6 g1.length j7) g1) ∧ (Kd.Q k36 36 w' w.heap.size (fun k_ => some k_ ≠ (.slice g8 e0.length g7 : Value).ownBlock) (.slice g4 f7.length g2) f7) ∧ (w'.heap[d9]? = some (.cells #[.int .i64 e3, .int .i64 e4, .slice g8 e0.length g7] 25 (0, 0))) ∧ (w'.heap[d8]? = some (.cells #[.int .i64 k5, .int .i64 k8, .int .i64 l4, .int .i64 m0, .int .i64 m2] 27 (0, 0))) ∧ (w'.heap[d7]? = some (.cells #[.int .i64 7, .int .i64 (1 + ((l1.length : Int) % 6)), .int .i64 (wrap64 (1 + (Int.tmod (wrap64 ((l1.length : Int) / 7)) 6))), .int .i64 0, .int .i64 0] 27 (0, 0))) ∧ (w'.heap[e6]? = some (.cells #[.int .i64 i6, .int .i64 i9, .slice k6 g1.length j7] 25 (0, 0))) ∧ (w'.heap[b6]? = some (.cells #[.int .i64 i4, .int .i64 i7, .slice g4 f7.length g2] 25 (0, 0))) ∧ (w'.heap[f6]? = some (.cells #[.int .i64 5, .int .i64 0, .int .i64 0, .int .i64 0, .int .i64 0] 27 (0, 0))) ∧ (w'.heap[b3]? = some (.cells #[.int .i64 7, .int .i64 e3, .int .i64 e4, .int .i64 0, .int .i64 0] 27 (0, 0))) ∧ (Below w.heap.size w w') ∧ (b 2 = true → Kd.R k27 27 w' w.heap.size (fun k_ => k_ ≠ d8 ∧ k_ ≠ d7 ∧ k_ ≠ f6 ∧ k_ ≠ b3) h7 y138) ∧ (b 3 = true → Kd.V k36 36 w' w.heap.size (fun k_ => some k_ ≠ (.slice g4 f7.length g2 : Value).ownBlock ∧ k_ ≠ d9 ∧ k_ ≠ d8 ∧ k_ ≠ d7 ∧ k_ ≠ e6 ∧ k_ ≠ b6 ∧ k_ ≠ f6 ∧ k_ ≠ b3) i0 H6) ∧ (b 9 = true → Kd.R k27 27 w' w.heap.size (fun k_ => k_ ≠ d8 ∧ k_ ≠ d7 ∧ k_ ≠ f6 ∧ k_ ≠ b3) h4 y147) ∧ (b 10 = true → Kd.V k36 36 w' w.heap.size (fun k_ => some k_ ≠ (.slice g4 f7.length g2 : Value).ownBlock ∧ k_ ≠ d9 ∧ k_ ≠ d8 ∧ k_ ≠ d7 ∧ k_ ≠ e6 ∧ k_ ≠ b6 ∧ k_ ≠ f6 ∧ k_ ≠ b3) h8 F5) ∧ (b 14 = true → Kd.R k27 27 w' w.heap.size (fun k_ => k_ ≠ d8 ∧ k_ ≠ d7 ∧ k_ ≠ f6 ∧ k_ ≠ b3) h5 y155) ∧ (b 15 = true → Kd.V k36 36 w' w.heap.size (fun k_ => some k_ ≠ (.slice g4 f7.length g2 : Value).ownBlock ∧ k_ ≠ d9 ∧ k_ ≠ d8 ∧ k_ ≠ d7 ∧ k_ ≠ e6 ∧ k_ ≠ b6 ∧ k_ ≠ f6 ∧ k_ ≠ b3) i1 I1) ∧ (b 3 = true → (m3_ : Value) = .agg #[.int .i64 H4, .int .i64 H5, i0]) ∧ (b 10 = true → (i2 : Value) = .agg #[.int .i64 H7, .int .i64 H8, h8]) ∧ (b 15 = true → (i3 : Value) = .agg #[.int .i64 H9, .int .i64 I0, i1])) HT_.out HW_.out (by kernel_rfl) (by kernel_rfl) ?_ ?_ ?_
            ·
             exact ⟨.bool false, .bool false, .bool false, .bool false, .bool false, .bool false, .bool false, .bool false, .bool false, by simp only [putSel, Bool.false_eq_true, if_false], a2.out, a4.out, a3.out, a5.out, a7.out, a6.out, b1.out, b2.out, b4.out, b5.out, HB.out, fun h_ => absurd h_ (by decide), fun h_ => absurd h_ (by decide), fun h_ => absurd h_ (by decide), fun h_ => absurd h_ (by decide), fun h_ => absurd h_ (by decide), fun h_ => absurd h_ (by decide), fun h_ => absurd h_ (by decide), fun h_ => absurd h_ (by decide), fun h_ => absurd h_ (by decide)⟩
            ·
             skip
             clear a5 a7 a6 b1 b2 b4 b5 HB a2 a4 a3
             refine ybe ?_ ?_
             ·
              rintro b a w' ⟨h7, i0, h4, h8, h5, i1, m3_, i2, i3, ha, a8, a9, b0, b7, b8, b9, d0, d1, d2, d3, Q_HB, d4, d5, e1, f5, e2, f9, g5, g3, g9⟩ hb_ hon hoff
              refine ⟨_, rfl, fun K hK => ?_⟩; have e5 : a.tmps[5]? = some (.pointer (some ⟨d9, 0, none⟩)) := (by rw [ha]; exact (putSel_off rfl).trans rfl); replace ha := yaa ha; have a2 := yaa a8; have a4 := yaa a9; have a3 := yaa b0; have a5 := yaa b7; have a7 := yaa b8; have a6 := yaa b9; have b1 := yaa d0; have b2 := yaa d1; have b4 := yaa d2; have b5 := yaa d3; have HB := yaa Q_HB; obtain ⟨hc0_, hc1_, hc2_⟩ := cc3_ a5.out
              refine value_ (w1 := w') (v := .agg #[.int .i64 e3, .int .i64 e4, .slice g8 e0.length g7]) (by rfl) rfl ?_ ?_
              ·
               go_simp
               (try simp only [i64_w])
               try rfl
              refine hK.out _ _ ⟨h7, i0, h4, h8, h5, i1, m3_, i2, i3, (by rw [ha.out]; exact ybf 0 hb_ rfl rfl rfl), a8, a9, b0, b7, b8, b9, d0, d1, d2, d3, Q_HB, d4, offA_ (hoff 3 (by kernel_rfl)), offA_ (hoff 9 (by kernel_rfl)), offA_ (hoff 10 (by kernel_rfl)), offA_ (hoff 14 (by kernel_rfl)), offA_ (hoff 15 (by kernel_rfl)), offA_ (hoff 3 (by kernel_rfl)), offA_ (hoff 10 (by kernel_rfl)), offA_ (hoff 15 (by kernel_rfl))⟩
             refine ybe ?_ ?_
             ·
              rintro b a w' ⟨h7, i0, h4, h8, h5, i1, m3_, i2, i3, ha, a8, a9, b0, b7, b8, b9, d0, d1, d2, d3, Q_HB, d4, d5, e1, f5, e2, f9, g5, g3, g9⟩ hb_ hon hoff
              refine ⟨_, rfl, fun K hK => ?_⟩; have e15 : a.tmps[15]? = some (.pointer (some ⟨b3, 0, none⟩)) := (by rw [ha]; exact (putSel_off rfl).trans rfl); replace ha := yaa ha; have a2 := yaa a8; have a4 := yaa a9; have a3 := yaa b0; have a5 := yaa b7; have a7 := yaa b8; have a6 := yaa b9; have b1 := yaa d0; have b2 := yaa d1; have b4 := yaa d2; have b5 := yaa d3; have HB := yaa Q_HB; obtain ⟨hc0_, hc1_, hc2_, hc3_, hc4_⟩ := cc5_ b5.out
              refine value_ (w1 := w') (v := .agg #[.int .i64 7, .int .i64 e3, .int .i64 e4, .int .i64 0, .int .i64 0]) (by rfl) rfl ?_ ?_
              ·
               go_simp
               (try simp only [i64_w])
               try rfl
              refine hK.out _ _ ⟨h7, i0, h4, h8, h5, i1, m3_, i2, i3, (by rw [ha.out]; exact ybf 1 hb_ rfl rfl rfl), a8, a9, b0, b7, b8, b9, d0, d1, d2, d3, Q_HB, offA_ (hoff 2 (by kernel_rfl)), offA_ (hoff 3 (by kernel_rfl)), offA_ (hoff 9 (by kernel_rfl)), offA_ (hoff 10 (by kernel_rfl)), offA_ (hoff 14 (by kernel_rfl)), offA_ (hoff 15 (by kernel_rfl)), offA_ (hoff 3 (by kernel_rfl)), offA_ (hoff 10 (by kernel_rfl)), offA_ (hoff 15 (by kernel_rfl))⟩
             refine ybe ?_ ?_
             ·
              rintro b a w' ⟨h7, i0, h4, h8, h5, i1, m3_, i2, i3, ha, a8, a9, b0, b7, b8, b9, d0, d1, d2, d3, Q_HB, d4, d5, e1, f5, e2, f9, g5, g3, g9⟩ hb_ hon hoff
              refine ⟨_, rfl, fun K hK => ?_⟩; have fB : a.tmps[113]? = some (.agg #[.int .i64 7, .int .i64 e3, .int .i64 e4, .int .i64 0, .int .i64 0]) := (by rw [ha]; exact yar (e := (1, 113, .agg #[.int .i64 7, .int .i64 e3, .int .i64 e4, .int .i64 0, .int .i64 0])) 1 rfl rfl (hon 1 (by kernel_rfl)) rfl); replace ha := yaa ha; have a2 := yaa a8; have a4 := yaa a9; have a3 := yaa b0; have a5 := yaa b7; have a7 := yaa b8; have a6 := yaa b9; have b1 := yaa d0; have b2 := yaa d1; have b4 := yaa d2; have b5 := yaa d3; have HB := yaa Q_HB
              refine Kd.R_lit_step k27 _ 27 ?hg (N := 114) ?hd (xs := ([(⟨7, e3, e4, 0, 0⟩ : S27)] : List (S27))) (inner := [.int .i64 7, .int .i64 e3, .int .i64 e4, .int .i64 0, .int .i64 0]) (ok := fun _ => True) (okp := fun _ => True) ?hr ?hp (fun _ hk => hk) trivial (Below.refl _ _) (Nat.le_refl _) (by simp) ?_; (case hd => rfl); (case hg => first | rfl | (simp [Region.wanted, yielded, *]; done)); (case hr => first | (go_simp; done) | (go_simp; rfl)); (case hp => exact (Reps.c5 (show Kd.M k27 _ _ _ (⟨7, e3, e4, 0, 0⟩ : S27) [.int .i64 7, .int .i64 e3, .int .i64 e4, .int .i64 0, .int .i64 0] from (k27_mkM _ _ _ (⟨7, e3, e4, 0, 0⟩ : S27) )) (Reps.none _ _)))
              intro h7 w148 o4 hb hg_ hnew_; clear hg_ hnew_
              (first | rw [← Ny138.out] at o4 | (simp only [Int.reduceToNat] at o4; rw [← Ny138.out] at o4))
              have n0_ := yaa (yak (upQ a2.out) hb); have n1_ := yaa (Kd.V_elder' (upV a4.out) (Kd.R_base o4) hb); have n2_ := yaa (yak (upQ a3.out) hb)
              have n3_ := yaa (Kd.R_lower (Kd.R_newB (Kd.R_newB (Kd.R_newB (Kd.R_newB o4 (upB a7.out)) (upB a6.out)) (upB b4.out)) (upB b5.out)) (ybc (by repeat (with_reducible first | exact HB.out | apply yaf | apply yad | apply yae | refine yai ?_ (Aside0.out ‹_›)))))
              have n4_ := yaa (yac (upB a5.out) hb); have n5_ := yaa (yac (upB a7.out) hb); have n6_ := yaa (yac (upB a6.out) hb); have n7_ := yaa (yac (upB b1.out) hb); have n8_ := yaa (yac (upB b2.out) hb); have n9_ := yaa (yac (upB b4.out) hb); have l2 := yaa (yac (upB b5.out) hb)
              have m1 := yaa (yan (by repeat (with_reducible first | exact HB.out | apply yaf | apply yad | apply yae | refine yai ?_ (Aside0.out ‹_›))) hb)
              clear a2; clear a4; clear a3; clear a5; clear a7; clear a6; clear b1; clear b2; clear b4; clear b5; clear HB; have a2 := n0_; have a4 := n1_; have a3 := n2_; have d6 := n3_; have a5 := n4_; have a7 := n5_; have a6 := n6_; have b1 := n7_; have b2 := n8_; have b4 := n9_; have b5 := l2; have HB := m1; clear n0_ n1_ n2_ n3_ n4_ n5_ n6_ n7_ n8_ n9_ l2 m1; clear hb o4
              refine hK.out _ _ ⟨h7, i0, h4, h8, h5, i1, m3_, i2, i3, (by rw [ha.out]; exact ybf 2 hb_ rfl rfl rfl), (upQ a2.out), (by (with_reducible repeat (first | apply yau | apply yav | apply yax)); exact yal a4.out (fun _ hk => by grind)), (upQ a3.out), (upB a5.out), (upB a7.out), (upB a6.out), (upB b1.out), (upB b2.out), (upB b4.out), (upB b5.out), (by repeat (with_reducible first | exact HB.out | apply yaf | apply yad | apply yae | refine yai ?_ (Aside0.out ‹_›))), fun _ => (by (with_reducible repeat (first | apply yap | apply yaq | apply yba)); exact ybk d6.out (fun _ hk => by grind)), offA_ (hoff 3 (by kernel_rfl)), offA_ (hoff 9 (by kernel_rfl)), offA_ (hoff 10 (by kernel_rfl)), offA_ (hoff 14 (by kernel_rfl)), offA_ (hoff 15 (by kernel_rfl)), offA_ (hoff 3 (by kernel_rfl)), offA_ (hoff 10 (by kernel_rfl)), offA_ (hoff 15 (by kernel_rfl))⟩
             refine ybe ?_ ?_
             ·
              rintro b a w' ⟨h7, i0, h4, h8, h5, i1, m3_, i2, i3, ha, a8, a9, b0, b7, b8, b9, d0, d1, d2, d3, Q_HB, d4, d5, e1, f5, e2, f9, g5, g3, g9⟩ hb_ hon hoff
              refine ⟨_, rfl, fun K hK => ?_⟩; have S3 : a.tmps[112]? = some (.agg #[.int .i64 e3, .int .i64 e4, .slice g8 e0.length g7]) := (by rw [ha]; exact yar (e := (0, 112, .agg #[.int .i64 e3, .int .i64 e4, .slice g8 e0.length g7])) 0 rfl rfl (hon 0 (by kernel_rfl)) rfl); have S4 : a.tmps[114]? = some (h7) := (by rw [ha]; exact yar (e := (2, 114, h7)) 2 rfl rfl (hon 2 (by kernel_rfl)) rfl); replace ha := yaa ha; have a2 := yaa a8; have a4 := yaa a9; have a3 := yaa b0; have a5 := yaa b7; have a7 := yaa b8; have a6 := yaa b9; have b1 := yaa d0; have b2 := yaa d1; have b4 := yaa d2; have b5 := yaa d3; have HB := yaa Q_HB; have d6 := yaa (d4 (hon 2 (by kernel_rfl))); obtain ⟨I2, I3, K8⟩ := Kd.R_slice d6.out
              (first | subst K8 | (injection K8 with f1_ f2_ f3_; have f4_ := f1_.symm; have f5_ := f3_.symm; clear f1_ f2_ f3_; subst f4_; subst f5_))
              refine goes_ Try.func15 (by kernel_rfl) rfl #[.agg #[.int .i64 e3, .int .i64 e4, .slice g8 e0.length g7], .slice I2 y138.length I3] (by first | rfl | (simp [Region.wanted, yielded, *]; done)) rfl rfl (by first | (simp only [List.map_toArray, List.map_cons, List.map_nil, Act.eval, Array.getD_eq_getD_getElem?, Option.getD_some, S3, S4]; done) | (simp only [List.map_toArray, List.map_cons, List.map_nil, Act.eval, Array.getD_eq_getD_getElem?, Option.getD_some, S3, S4]; rfl)) ?_
              with_reducible refine (laws_eaDo.calls k3 e3 e4 (fun k_ => some k_ = (.slice g8 e0.length g7 : Value).ownBlock) _ _ e0 _ _ y138 H4 H5 H6 _ ?side1 ?side2 ?side3 Y9.out).mono ?_
              (case side1 => exact Kd.Q_V (Kd.Q_tight rfl (yab (yab (yab (yab (yab (yab (yab (yag (a2.out) (yaj d6.out) (by decide)) a5.out (by decide)) a7.out (by decide)) a6.out (by decide)) b1.out (by decide)) b2.out (by decide)) b4.out (by decide)) b5.out (by decide))))
              (case side2 => repeat (first | exact (ybl d6.out).2.2 | (with_reducible refine Kd.C_alloc ?_ _) | (with_reducible refine Kd.C_drewN ?_ _) | (with_reducible refine Kd.C_drew ?_)))
              (case side3 => exact (ybl d6.out).2.1)
              rintro e w152 ⟨i0, rfl, ho0, hb⟩; refine ⟨_, rfl, ?_⟩; have n0_ := yaa (yak (upQ a2.out) hb); have n1_ := yaa (ybd (upV a4.out) hb); have n2_ := yaa (yak (upQ a3.out) hb); have n3_ := yaa (yas (upR d6.out) hb)
              have n4_ := yaa (Kd.V_lower (yal (ok' := fun k_ => some k_ ≠ (.slice g4 f7.length g2 : Value).ownBlock ∧ some k_ ≠ (.slice I2 y138.length I3 : Value).ownBlock ∧ k_ ≠ d9 ∧ k_ ≠ d8 ∧ k_ ≠ d7 ∧ k_ ≠ e6 ∧ k_ ≠ b6 ∧ k_ ≠ f6 ∧ k_ ≠ b3) ho0 (fun k_ hk_ => ⟨Or.elim hk_ (fun hs_ => ((yab (yab (yab (yab (yab (yab (yab (yag (a2.out) (yaj d6.out) (by decide)) a5.out (by decide)) a7.out (by decide)) a6.out (by decide)) b1.out (by decide)) b2.out (by decide)) b4.out (by decide)) b5.out (by decide)).1 k_ hs_.symm).1.1.1.1.1.1.1.1) (fun hn_ => (Kd.fresh' (Kd.Q_lt (upQ a3.out)) k_ hn_)), Or.elim hk_ (fun hs_ => ((yab (yab (yab (yab (yab (yab (yab (yag (a2.out) (yaj d6.out) (by decide)) a5.out (by decide)) a7.out (by decide)) a6.out (by decide)) b1.out (by decide)) b2.out (by decide)) b4.out (by decide)) b5.out (by decide)).1 k_ hs_.symm).1.1.1.1.1.1.1.2) (fun hn_ => (Kd.fresh' (Kd.R_lt (upR d6.out)) k_ hn_)), Or.elim hk_ (fun hs_ => ((yab (yab (yab (yab (yab (yab (yab (yag (a2.out) (yaj d6.out) (by decide)) a5.out (by decide)) a7.out (by decide)) a6.out (by decide)) b1.out (by decide)) b2.out (by decide)) b4.out (by decide)) b5.out (by decide)).1 k_ hs_.symm).1.1.1.1.1.1.2) (fun hn_ => (yaz (upB a5.out) k_ hn_)), Or.elim hk_ (fun hs_ => ((yab (yab (yab (yab (yab (yab (yab (yag (a2.out) (yaj d6.out) (by decide)) a5.out (by decide)) a7.out (by decide)) a6.out (by decide)) b1.out (by decide)) b2.out (by decide)) b4.out (by decide)) b5.out (by decide)).1 k_ hs_.symm).1.1.1.1.1.2) (fun hn_ => (yaz (upB a7.out) k_ hn_)), Or.elim hk_ (fun hs_ => ((yab (yab (yab (yab (yab (yab (yab (yag (a2.out) (yaj d6.out) (by decide)) a5.out (by decide)) a7.out (by decide)) a6.out (by decide)) b1.out (by decide)) b2.out (by decide)) b4.out (by decide)) b5.out (by decide)).1 k_ hs_.symm).1.1.1.1.2) (fun hn_ => (yaz (upB a6.out) k_ hn_)), Or.elim hk_ (fun hs_ => ((yab (yab (yab (yab (yab (yab (yab (yag (a2.out) (yaj d6.out) (by decide)) a5.out (by decide)) a7.out (by decide)) a6.out (by decide)) b1.out (by decide)) b2.out (by decide)) b4.out (by decide)) b5.out (by decide)).1 k_ hs_.symm).1.1.1.2) (fun hn_ => (yaz (upB b1.out) k_ hn_)), Or.elim hk_ (fun hs_ => ((yab (yab (yab (yab (yab (yab (yab (yag (a2.out) (yaj d6.out) (by decide)) a5.out (by decide)) a7.out (by decide)) a6.out (by decide)) b1.out (by decide)) b2.out (by decide)) b4.out (by decide)) b5.out (by decide)).1 k_ hs_.symm).1.1.2) (fun hn_ => (yaz (upB b2.out) k_ hn_)), Or.elim hk_ (fun hs_ => ((yab (yab (yab (yab (yab (yab (yab (yag (a2.out) (yaj d6.out) (by decide)) a5.out (by decide)) a7.out (by decide)) a6.out (by decide)) b1.out (by decide)) b2.out (by decide)) b4.out (by decide)) b5.out (by decide)).1 k_ hs_.symm).1.2) (fun hn_ => (yaz (upB b4.out) k_ hn_)), Or.elim hk_ (fun hs_ => ((yab (yab (yab (yab (yab (yab (yab (yag (a2.out) (yaj d6.out) (by decide)) a5.out (by decide)) a7.out (by decide)) a6.out (by decide)) b1.out (by decide)) b2.out (by decide)) b4.out (by decide)) b5.out (by decide)).1 k_ hs_.symm).2) (fun hn_ => (yaz (upB b5.out) k_ hn_))⟩)) (ybc (by repeat (with_reducible first | exact HB.out | apply yaf | apply yad | apply yae | refine yai ?_ (Aside0.out ‹_›)))))
              have n5_ := yaa (yac (upB a5.out) hb); have n6_ := yaa (yac (upB a7.out) hb); have n7_ := yaa (yac (upB a6.out) hb); have n8_ := yaa (yac (upB b1.out) hb); have n9_ := yaa (yac (upB b2.out) hb); have l2 := yaa (yac (upB b4.out) hb); have m1 := yaa (yac (upB b5.out) hb)
              have m4 := yaa (yan (by repeat (with_reducible first | exact HB.out | apply yaf | apply yad | apply yae | refine yai ?_ (Aside0.out ‹_›))) hb)
              clear a2; clear a4; clear a3; clear d6; clear a5; clear a7; clear a6; clear b1; clear b2; clear b4; clear b5; clear HB; have a2 := n0_; have a4 := n1_; have a3 := n2_; have d6 := n3_; have g0 := n4_; have a5 := n5_; have a7 := n6_; have a6 := n7_; have b1 := n8_; have b2 := n9_; have b4 := l2; have b5 := m1; have HB := m4; clear n0_ n1_ n2_ n3_ n4_ n5_ n6_ n7_ n8_ n9_ l2 m1 m4; (try clear hb); (try clear hb2); (try clear hk); (try clear hi); (try clear ho0)
              refine hK.out _ _ ⟨.slice I2 y138.length I3, i0, h4, h8, h5, i1, (.agg #[.int .i64 H4, .int .i64 H5, i0]), i2, i3, (by rw [ha.out]; exact ybf 3 hb_ rfl rfl rfl), (upQ a2.out), (upV a4.out), (upQ a3.out), (upB a5.out), (upB a7.out), (upB a6.out), (upB b1.out), (upB b2.out), (upB b4.out), (upB b5.out), (by repeat (with_reducible first | exact HB.out | apply yaf | apply yad | apply yae | refine yai ?_ (Aside0.out ‹_›))), fun _ => (upR d6.out), fun _ => (by (with_reducible repeat (first | apply yau | apply yav | apply yax)); exact yal g0.out (fun _ hk => by grind)), offA_ (hoff 9 (by kernel_rfl)), offA_ (hoff 10 (by kernel_rfl)), offA_ (hoff 14 (by kernel_rfl)), offA_ (hoff 15 (by kernel_rfl)), fun _ => rfl, offA_ (hoff 10 (by kernel_rfl)), offA_ (hoff 15 (by kernel_rfl))⟩
             refine ybe ?_ ?_
             ·
              rintro b a w' ⟨h7, i0, h4, h8, h5, i1, m3_, i2, i3, ha, a8, a9, b0, b7, b8, b9, d0, d1, d2, d3, Q_HB, d4, d5, e1, f5, e2, f9, g5, g3, g9⟩ hb_ hon hoff
              refine ⟨_, rfl, fun K hK => ?_⟩; have e5 : a.tmps[5]? = some (.pointer (some ⟨d9, 0, none⟩)) := (by rw [ha]; exact (putSel_off rfl).trans rfl); replace ha := yaa ha; have a2 := yaa a8; have a4 := yaa a9; have a3 := yaa b0; have a5 := yaa b7; have a7 := yaa b8; have a6 := yaa b9; have b1 := yaa d0; have b2 := yaa d1; have b4 := yaa d2; have b5 := yaa d3; have HB := yaa Q_HB; obtain ⟨hc0_, hc1_, hc2_⟩ := cc3_ a5.out
              refine value_ (w1 := w') (v := .agg #[.int .i64 e3, .int .i64 e4, .slice g8 e0.length g7]) (by rfl) rfl ?_ ?_
              ·
               go_simp
               (try simp only [i64_w])
               try rfl
              refine hK.out _ _ ⟨h7, i0, h4, h8, h5, i1, m3_, i2, i3, (by rw [ha.out]; exact ybf 4 hb_ rfl rfl rfl), a8, a9, b0, b7, b8, b9, d0, d1, d2, d3, Q_HB, d4, d5, offA_ (hoff 9 (by kernel_rfl)), offA_ (hoff 10 (by kernel_rfl)), offA_ (hoff 14 (by kernel_rfl)), offA_ (hoff 15 (by kernel_rfl)), g5, offA_ (hoff 10 (by kernel_rfl)), offA_ (hoff 15 (by kernel_rfl))⟩
             refine ybe ?_ ?_
             ·
              rintro b a w' ⟨h7, i0, h4, h8, h5, i1, m3_, i2, i3, ha, a8, a9, b0, b7, b8, b9, d0, d1, d2, d3, Q_HB, d4, d5, e1, f5, e2, f9, g5, g3, g9⟩ hb_ hon hoff
              refine ⟨_, rfl, fun K hK => ?_⟩; have M4 : a.tmps[115]? = some (m3_) := (by rw [ha]; exact yar (e := (3, 115, m3_)) 3 rfl rfl (hon 3 (by kernel_rfl)) rfl)
              rw [g5 (hon 3 (by kernel_rfl))] at M4
              have S5 : a.tmps[116]? = some (.agg #[.int .i64 e3, .int .i64 e4, .slice g8 e0.length g7]) := (by rw [ha]; exact yar (e := (4, 116, .agg #[.int .i64 e3, .int .i64 e4, .slice g8 e0.length g7])) 4 rfl rfl (hon 4 (by kernel_rfl)) rfl); replace ha := yaa ha; have a2 := yaa a8; have a4 := yaa a9; have a3 := yaa b0; have a5 := yaa b7; have a7 := yaa b8; have a6 := yaa b9; have b1 := yaa d0; have b2 := yaa d1; have b4 := yaa d2; have b5 := yaa d3; have HB := yaa Q_HB; have d6 := yaa (d4 (hon 2 (by kernel_rfl))); have g0 := yaa (d5 (hon 3 (by kernel_rfl))); obtain ⟨K9, L0, L1⟩ := Kd.V_slice g0.out
              (first | subst L1 | (injection L1 with f1_ f2_ f3_; have f4_ := f1_.symm; have f5_ := f3_.symm; clear f1_ f2_ f3_; subst f4_; subst f5_))
              refine goes_ Try.func13 (by kernel_rfl) rfl #[.agg #[.int .i64 H4, .int .i64 H5, .slice K9 H6.length L0], .agg #[.int .i64 e3, .int .i64 e4, .slice g8 e0.length g7]] (by first | rfl | (simp [Region.wanted, yielded, *]; done)) rfl rfl (by first | (simp only [List.map_toArray, List.map_cons, List.map_nil, Act.eval, Array.getD_eq_getD_getElem?, Option.getD_some, M4, S5]; done) | (simp only [List.map_toArray, List.map_cons, List.map_nil, Act.eval, Array.getD_eq_getD_getElem?, Option.getD_some, M4, S5]; rfl)) ?_
              with_reducible refine (laws_eaRas.calls k3 H4 H5 _ _ H6 e3 e4 _ _ e0 true _ ?side1 ?side2 ?side3 ?side4 Z1.out).mono ?_
              (case side1 => repeat (first | exact (ybm g0.out).2.2 | (with_reducible refine Kd.C_alloc ?_ _) | (with_reducible refine Kd.C_drewN ?_ _) | (with_reducible refine Kd.C_drew ?_)))
              (case side2 => exact (ybm g0.out).2.1)
              (case side3 => repeat (first | exact (Kd.Q_reads' a2.out).2.2 | (with_reducible refine Kd.C_alloc ?_ _) | (with_reducible refine Kd.C_drewN ?_ _) | (with_reducible refine Kd.C_drew ?_)))
              (case side4 => exact (Kd.Q_reads' a2.out).2.1)
              rintro e w154 ⟨rfl, hb⟩; refine ⟨_, rfl, ?_⟩; have n0_ := yaa (yak (upQ a2.out) hb); have n1_ := yaa (ybd (upV a4.out) hb); have n2_ := yaa (yak (upQ a3.out) hb); have n3_ := yaa (yas (upR d6.out) hb); have n4_ := yaa (ybd (upV g0.out) hb); have n5_ := yaa (yac (upB a5.out) hb); have n6_ := yaa (yac (upB a7.out) hb); have n7_ := yaa (yac (upB a6.out) hb); have n8_ := yaa (yac (upB b1.out) hb); have n9_ := yaa (yac (upB b2.out) hb); have l2 := yaa (yac (upB b4.out) hb); have m1 := yaa (yac (upB b5.out) hb)
              have m4 := yaa (yan (by repeat (with_reducible first | exact HB.out | apply yaf | apply yad | apply yae | refine yai ?_ (Aside0.out ‹_›))) hb)
              clear a2; clear a4; clear a3; clear d6; clear g0; clear a5; clear a7; clear a6; clear b1; clear b2; clear b4; clear b5; clear HB; have a2 := n0_; have a4 := n1_; have a3 := n2_; have d6 := n3_; have g0 := n4_; have a5 := n5_; have a7 := n6_; have a6 := n7_; have b1 := n8_; have b2 := n9_; have b4 := l2; have b5 := m1; have HB := m4; clear n0_ n1_ n2_ n3_ n4_ n5_ n6_ n7_ n8_ n9_ l2 m1 m4; (try clear hb); (try clear hb2); (try clear hk); (try clear hi)
              refine hK.out _ _ ⟨h7, .slice K9 H6.length L0, h4, h8, h5, i1, m3_, i2, i3, (by rw [ha.out]; exact ybf 5 hb_ rfl rfl rfl), (upQ a2.out), (upV a4.out), (upQ a3.out), (upB a5.out), (upB a7.out), (upB a6.out), (upB b1.out), (upB b2.out), (upB b4.out), (upB b5.out), (by repeat (with_reducible first | exact HB.out | apply yaf | apply yad | apply yae | refine yai ?_ (Aside0.out ‹_›))), fun _ => (upR d6.out), fun _ => yal (upV g0.out) (fun _ hk => by first | exact hk | grind), offA_ (hoff 9 (by kernel_rfl)), offA_ (hoff 10 (by kernel_rfl)), offA_ (hoff 14 (by kernel_rfl)), offA_ (hoff 15 (by kernel_rfl)), g5, offA_ (hoff 10 (by kernel_rfl)), offA_ (hoff 15 (by kernel_rfl))⟩
             refine ybe ?_ ?_
             ·
              rintro b a w' ⟨h7, i0, h4, h8, h5, i1, m3_, i2, i3, ha, a8, a9, b0, b7, b8, b9, d0, d1, d2, d3, Q_HB, d4, d5, e1, f5, e2, f9, g5, g3, g9⟩ hb_ hon hoff
              refine ⟨_, rfl, fun K hK => ?_⟩; have fC : a.tmps[117]? = some (.bool true) := (by rw [ha]; exact yar (e := (5, 117, .bool true)) 5 rfl rfl (hon 5 (by kernel_rfl)) rfl); replace ha := yaa ha; have a2 := yaa a8; have a4 := yaa a9; have a3 := yaa b0; have a5 := yaa b7; have a7 := yaa b8; have a6 := yaa b9; have b1 := yaa d0; have b2 := yaa d1; have b4 := yaa d2; have b5 := yaa d3; have HB := yaa Q_HB; have d6 := yaa (d4 (hon 2 (by kernel_rfl))); have g0 := yaa (d5 (hon 3 (by kernel_rfl)))
              refine value_ (w1 := w') (v := .bool true) (by rfl) rfl ?_ ?_
              ·
               go_simp
               (try simp only [i64_w])
               try rfl
              refine hK.out _ _ ⟨h7, i0, h4, h8, h5, i1, m3_, i2, i3, (by rw [ha.out]; exact ybf 6 hb_ rfl rfl rfl), a8, a9, b0, b7, b8, b9, d0, d1, d2, d3, Q_HB, d4, d5, offA_ (hoff 9 (by kernel_rfl)), offA_ (hoff 10 (by kernel_rfl)), offA_ (hoff 14 (by kernel_rfl)), offA_ (hoff 15 (by kernel_rfl)), g5, offA_ (hoff 10 (by kernel_rfl)), offA_ (hoff 15 (by kernel_rfl))⟩
             refine ybe ?_ ?_
             ·
              rintro b a w' ⟨h7, i0, h4, h8, h5, i1, m3_, i2, i3, ha, a8, a9, b0, b7, b8, b9, d0, d1, d2, d3, Q_HB, d4, d5, e1, f5, e2, f9, g5, g3, g9⟩ hb_ hon hoff
              refine ⟨_, rfl, fun K hK => ?_⟩; have e8 : a.tmps[8]? = some (.pointer (some ⟨e6, 0, none⟩)) := (by rw [ha]; exact (putSel_off rfl).trans rfl); have m3 : a.tmps[118]? = some (.bool true) := (by rw [ha]; exact yar (e := (6, 118, .bool true)) 6 rfl rfl (hon 6 (by kernel_rfl)) rfl); replace ha := yaa ha; have a2 := yaa a8; have a4 := yaa a9; have a3 := yaa b0; have a5 := yaa b7; have a7 := yaa b8; have a6 := yaa b9; have b1 := yaa d0; have b2 := yaa d1; have b4 := yaa d2; have b5 := yaa d3; have HB := yaa Q_HB; have d6 := yaa (d4 (hon 2 (by kernel_rfl))); have g0 := yaa (d5 (hon 3 (by kernel_rfl))); obtain ⟨hc0_, hc1_, hc2_⟩ := cc3_ b1.out
              refine value_ (w1 := w') (v := .agg #[.int .i64 i6, .int .i64 i9, .slice k6 g1.length j7]) (wanted_on rfl rfl rfl (m3.trans (by first | rfl | (simp [*]; done)))) rfl ?_ ?_
              ·
               go_simp
               (try simp only [i64_w])
               try rfl
              refine hK.out _ _ ⟨h7, i0, h4, h8, h5, i1, m3_, i2, i3, (by rw [ha.out]; exact ybf 7 hb_ rfl rfl rfl), a8, a9, b0, b7, b8, b9, d0, d1, d2, d3, Q_HB, d4, d5, e1, offA_ (hoff 10 (by kernel_rfl)), e2, offA_ (hoff 15 (by kernel_rfl)), g5, offA_ (hoff 10 (by kernel_rfl)), offA_ (hoff 15 (by kernel_rfl))⟩
             refine ybe ?_ ?_
             ·
              rintro b a w' ⟨h7, i0, h4, h8, h5, i1, m3_, i2, i3, ha, a8, a9, b0, b7, b8, b9, d0, d1, d2, d3, Q_HB, d4, d5, e1, f5, e2, f9, g5, g3, g9⟩ hb_ hon hoff
              refine ⟨_, rfl, fun K hK => ?_⟩; have e14 : a.tmps[14]? = some (.pointer (some ⟨f6, 0, none⟩)) := (by rw [ha]; exact (putSel_off rfl).trans rfl); have m3 : a.tmps[118]? = some (.bool true) := (by rw [ha]; exact yar (e := (6, 118, .bool true)) 6 rfl rfl (hon 6 (by kernel_rfl)) rfl); replace ha := yaa ha; have a2 := yaa a8; have a4 := yaa a9; have a3 := yaa b0; have a5 := yaa b7; have a7 := yaa b8; have a6 := yaa b9; have b1 := yaa d0; have b2 := yaa d1; have b4 := yaa d2; have b5 := yaa d3; have HB := yaa Q_HB; have d6 := yaa (d4 (hon 2 (by kernel_rfl))); have g0 := yaa (d5 (hon 3 (by kernel_rfl))); obtain ⟨hc0_, hc1_, hc2_, hc3_, hc4_⟩ := cc5_ b4.out
              refine value_ (w1 := w') (v := .agg #[.int .i64 5, .int .i64 0, .int .i64 0, .int .i64 0, .int .i64 0]) (wanted_on rfl rfl rfl (m3.trans (by first | rfl | (simp [*]; done)))) rfl ?_ ?_
              ·
               go_simp
               (try simp only [i64_w])
               try rfl
              refine hK.out _ _ ⟨h7, i0, h4, h8, h5, i1, m3_, i2, i3, (by rw [ha.out]; exact ybf 8 hb_ rfl rfl rfl), a8, a9, b0, b7, b8, b9, d0, d1, d2, d3, Q_HB, d4, d5, offA_ (hoff 9 (by kernel_rfl)), offA_ (hoff 10 (by kernel_rfl)), e2, offA_ (hoff 15 (by kernel_rfl)), g5, offA_ (hoff 10 (by kernel_rfl)), offA_ (hoff 15 (by kernel_rfl))⟩
             refine ybe ?_ ?_
             ·
              rintro b a w' ⟨h7, i0, h4, h8, h5, i1, m3_, i2, i3, ha, a8, a9, b0, b7, b8, b9, d0, d1, d2, d3, Q_HB, d4, d5, e1, f5, e2, f9, g5, g3, g9⟩ hb_ hon hoff
              refine ⟨_, rfl, fun K hK => ?_⟩; have fD : a.tmps[120]? = some (.agg #[.int .i64 5, .int .i64 0, .int .i64 0, .int .i64 0, .int .i64 0]) := (by rw [ha]; exact yar (e := (8, 120, .agg #[.int .i64 5, .int .i64 0, .int .i64 0, .int .i64 0, .int .i64 0])) 8 rfl rfl (hon 8 (by kernel_rfl)) rfl); have m3 : a.tmps[118]? = some (.bool true) := (by rw [ha]; exact yar (e := (6, 118, .bool true)) 6 rfl rfl (hon 6 (by kernel_rfl)) rfl); replace ha := yaa ha; have a2 := yaa a8; have a4 := yaa a9; have a3 := yaa b0; have a5 := yaa b7; have a7 := yaa b8; have a6 := yaa b9; have b1 := yaa d0; have b2 := yaa d1; have b4 := yaa d2; have b5 := yaa d3; have HB := yaa Q_HB; have d6 := yaa (d4 (hon 2 (by kernel_rfl))); have g0 := yaa (d5 (hon 3 (by kernel_rfl)))
              refine Kd.R_lit_step k27 _ 27 ?hg (N := 121) ?hd (xs := ([(⟨5, 0, 0, 0, 0⟩ : S27)] : List (S27))) (inner := [.int .i64 5, .int .i64 0, .int .i64 0, .int .i64 0, .int .i64 0]) (ok := fun _ => True) (okp := fun _ => True) ?hr ?hp (fun _ hk => hk) trivial (Below.refl _ _) (Nat.le_refl _) (by simp) ?_; (case hd => rfl); (case hg => first | rfl | (simp [Region.wanted, yielded, *]; done)); (case hr => first | (go_simp; done) | (go_simp; rfl)); (case hp => exact (Reps.c5 (show Kd.M k27 _ _ _ (⟨5, 0, 0, 0, 0⟩ : S27) [.int .i64 5, .int .i64 0, .int .i64 0, .int .i64 0, .int .i64 0] from (k27_mkM _ _ _ (⟨5, 0, 0, 0, 0⟩ : S27) )) (Reps.none _ _)))
              intro h4 w155 j3 hb hg_ hnew_; clear hg_ hnew_
              (first | rw [← Ny147.out] at j3 | (simp only [Int.reduceToNat] at j3; rw [← Ny147.out] at j3))
              have n0_ := yaa (yak (upQ a2.out) hb); have n1_ := yaa (Kd.V_elder' (upV a4.out) (Kd.R_base j3) hb); have n2_ := yaa (yak (upQ a3.out) hb); have n3_ := yaa (Kd.R_elder' (upR d6.out) (Kd.R_base j3) hb); have n4_ := yaa (Kd.V_elder' (upV g0.out) (Kd.R_base j3) hb)
              have n5_ := yaa (Kd.R_lower (Kd.R_newB (Kd.R_newB (Kd.R_newB (Kd.R_newB (Kd.R_new' j3 (Kd.R_lt (upR d6.out))) (upB a7.out)) (upB a6.out)) (upB b4.out)) (upB b5.out)) (ybc (by repeat (with_reducible first | exact HB.out | apply yaf | apply yad | apply yae | refine yai ?_ (Aside0.out ‹_›)))))
              have n6_ := yaa (yac (upB a5.out) hb); have n7_ := yaa (yac (upB a7.out) hb); have n8_ := yaa (yac (upB a6.out) hb); have n9_ := yaa (yac (upB b1.out) hb); have l2 := yaa (yac (upB b2.out) hb); have m1 := yaa (yac (upB b4.out) hb); have m4 := yaa (yac (upB b5.out) hb)
              have n4 := yaa (yan (by repeat (with_reducible first | exact HB.out | apply yaf | apply yad | apply yae | refine yai ?_ (Aside0.out ‹_›))) hb)
              have E0 := fun (h0_ : b 14 = true) => (show Kd.R k27 27 w155 w.heap.size (fun k_ => k_ ≠ d8 ∧ k_ ≠ d7 ∧ k_ ≠ f6 ∧ k_ ≠ b3) h5 y155 from by first | exact (Kd.R_elder' (by (with_reducible repeat (first | apply yap | apply yaq | apply yba)); exact (e2 h0_)) (Kd.R_base j3) hb) | exact ybk (Kd.R_elder' (by (with_reducible repeat (first | apply yap | apply yaq | apply yba)); exact (e2 h0_)) (Kd.R_base j3) hb) (fun _ h_ => by first | trivial | exact h_ | exact h_.1))
              clear a2; clear a4; clear a3; clear d6; clear g0; clear a5; clear a7; clear a6; clear b1; clear b2; clear b4; clear b5; clear HB; have a2 := n0_; have a4 := n1_; have a3 := n2_; have d6 := n3_; have g0 := n4_; have g6 := n5_; have a5 := n6_; have a7 := n7_; have a6 := n8_; have b1 := n9_; have b2 := l2; have b4 := m1; have b5 := m4; have HB := n4; clear n0_ n1_ n2_ n3_ n4_ n5_ n6_ n7_ n8_ n9_ l2 m1 m4 n4; clear hb j3
              refine hK.out _ _ ⟨h7, i0, h4, h8, h5, i1, m3_, i2, i3, (by rw [ha.out]; exact ybf 9 hb_ rfl rfl rfl), (upQ a2.out), (by (with_reducible repeat (first | apply yau | apply yav | apply yax)); exact yal a4.out (fun _ hk => by grind)), (upQ a3.out), (upB a5.out), (upB a7.out), (upB a6.out), (upB b1.out), (upB b2.out), (upB b4.out), (upB b5.out), (by repeat (with_reducible first | exact HB.out | apply yaf | apply yad | apply yae | refine yai ?_ (Aside0.out ‹_›))), fun _ => (by (with_reducible repeat (first | apply yap | apply yaq | apply yba)); exact ybk d6.out (fun _ hk => by grind)), fun _ => (by (with_reducible repeat (first | apply yau | apply yav | apply yax)); exact yal g0.out (fun _ hk => by grind)), fun _ => (by (with_reducible repeat (first | apply yap | apply yaq | apply yba)); exact ybk g6.out (fun _ hk => by grind)), offA_ (hoff 10 (by kernel_rfl)), E0, offA_ (hoff 15 (by kernel_rfl)), g5, offA_ (hoff 10 (by kernel_rfl)), offA_ (hoff 15 (by kernel_rfl))⟩
             refine ybe ?_ ?_
             ·
              rintro b a w' ⟨h7, i0, h4, h8, h5, i1, m3_, i2, i3, ha, a8, a9, b0, b7, b8, b9, d0, d1, d2, d3, Q_HB, d4, d5, e1, f5, e2, f9, g5, g3, g9⟩ hb_ hon hoff
              refine ⟨_, rfl, fun K hK => ?_⟩; have S6 : a.tmps[119]? = some (.agg #[.int .i64 i6, .int .i64 i9, .slice k6 g1.length j7]) := (by rw [ha]; exact yar (e := (7, 119, .agg #[.int .i64 i6, .int .i64 i9, .slice k6 g1.length j7])) 7 rfl rfl (hon 7 (by kernel_rfl)) rfl); have S7 : a.tmps[121]? = some (h4) := (by rw [ha]; exact yar (e := (9, 121, h4)) 9 rfl rfl (hon 9 (by kernel_rfl)) rfl); have m3 : a.tmps[118]? = some (.bool true) := (by rw [ha]; exact yar (e := (6, 118, .bool true)) 6 rfl rfl (hon 6 (by kernel_rfl)) rfl); replace ha := yaa ha; have a2 := yaa a8; have a4 := yaa a9; have a3 := yaa b0; have a5 := yaa b7; have a7 := yaa b8; have a6 := yaa b9; have b1 := yaa d0; have b2 := yaa d1; have b4 := yaa d2; have b5 := yaa d3; have HB := yaa Q_HB; have d6 := yaa (d4 (hon 2 (by kernel_rfl))); have g0 := yaa (d5 (hon 3 (by kernel_rfl))); have g6 := yaa (e1 (hon 9 (by kernel_rfl))); obtain ⟨L2, L3, L4⟩ := Kd.R_slice g6.out
              (first | subst L4 | (injection L4 with f1_ f2_ f3_; have f4_ := f1_.symm; have f5_ := f3_.symm; clear f1_ f2_ f3_; subst f4_; subst f5_))
              refine goes_ Try.func15 (by kernel_rfl) rfl #[.agg #[.int .i64 i6, .int .i64 i9, .slice k6 g1.length j7], .slice L2 y147.length L3] (by first | rfl | (simp [Region.wanted, yielded, *]; done)) rfl rfl (by first | (simp only [List.map_toArray, List.map_cons, List.map_nil, Act.eval, Array.getD_eq_getD_getElem?, Option.getD_some, S6, S7, m3]; done) | (simp only [List.map_toArray, List.map_cons, List.map_nil, Act.eval, Array.getD_eq_getD_getElem?, Option.getD_some, S6, S7, m3]; rfl)) ?_
              with_reducible refine (laws_eaDo.calls k3 i6 i9 (fun k_ => some k_ ≠ (.slice g4 f7.length g2 : Value).ownBlock ∧ k_ ≠ d9 ∧ k_ ≠ d8 ∧ k_ ≠ d7 ∧ k_ ≠ e6 ∧ k_ ≠ b6 ∧ k_ ≠ f6 ∧ k_ ≠ b3) _ _ g1 _ _ y147 H7 H8 F5 _ ?side1 ?side2 ?side3 Z2.out).mono ?_
              (case side1 => exact a4.out)
              (case side2 => repeat (first | exact (ybl g6.out).2.2 | (with_reducible refine Kd.C_alloc ?_ _) | (with_reducible refine Kd.C_drewN ?_ _) | (with_reducible refine Kd.C_drew ?_)))
              (case side3 => exact (ybl g6.out).2.1)
              rintro e w158 ⟨h8, rfl, ho0, hb⟩; refine ⟨_, rfl, ?_⟩; have n0_ := yaa (yak (upQ a2.out) hb); have n1_ := yaa (ybd (upV a4.out) hb); have n2_ := yaa (yak (upQ a3.out) hb); have n3_ := yaa (yas (upR d6.out) hb); have n4_ := yaa (ybd (upV g0.out) hb); have n5_ := yaa (yas (upR g6.out) hb)
              have n6_ := yaa (Kd.V_lower (yal (ok' := fun k_ => some k_ ≠ (.slice g4 f7.length g2 : Value).ownBlock ∧ k_ ≠ d9 ∧ k_ ≠ d8 ∧ k_ ≠ d7 ∧ k_ ≠ e6 ∧ k_ ≠ b6 ∧ k_ ≠ f6 ∧ k_ ≠ b3) ho0 (fun k_ hk_ => ⟨Or.elim hk_ (fun hs_ => hs_.1) (fun hn_ => (Kd.fresh' (Kd.Q_lt (upQ a3.out)) k_ hn_)), Or.elim hk_ (fun hs_ => hs_.2.1) (fun hn_ => (yaz (upB a5.out) k_ hn_)), Or.elim hk_ (fun hs_ => hs_.2.2.1) (fun hn_ => (yaz (upB a7.out) k_ hn_)), Or.elim hk_ (fun hs_ => hs_.2.2.2.1) (fun hn_ => (yaz (upB a6.out) k_ hn_)), Or.elim hk_ (fun hs_ => hs_.2.2.2.2.1) (fun hn_ => (yaz (upB b1.out) k_ hn_)), Or.elim hk_ (fun hs_ => hs_.2.2.2.2.2.1) (fun hn_ => (yaz (upB b2.out) k_ hn_)), Or.elim hk_ (fun hs_ => hs_.2.2.2.2.2.2.1) (fun hn_ => (yaz (upB b4.out) k_ hn_)), Or.elim hk_ (fun hs_ => hs_.2.2.2.2.2.2.2) (fun hn_ => (yaz (upB b5.out) k_ hn_))⟩)) (ybc (by repeat (with_reducible first | exact HB.out | apply yaf | apply yad | apply yae | refine yai ?_ (Aside0.out ‹_›)))))
              have n7_ := yaa (yac (upB a5.out) hb); have n8_ := yaa (yac (upB a7.out) hb); have n9_ := yaa (yac (upB a6.out) hb); have l2 := yaa (yac (upB b1.out) hb); have m1 := yaa (yac (upB b2.out) hb); have m4 := yaa (yac (upB b4.out) hb); have n4 := yaa (yac (upB b5.out) hb)
              have E2 := yaa (yan (by repeat (with_reducible first | exact HB.out | apply yaf | apply yad | apply yae | refine yai ?_ (Aside0.out ‹_›))) hb)
              have E0 := fun (h0_ : b 14 = true) => (show Kd.R k27 27 w158 w.heap.size (fun k_ => k_ ≠ d8 ∧ k_ ≠ d7 ∧ k_ ≠ f6 ∧ k_ ≠ b3) h5 y155 from by first | exact (yas (by (with_reducible repeat (first | apply yap | apply yaq | apply yba)); exact (e2 h0_)) hb) | exact ybk (yas (by (with_reducible repeat (first | apply yap | apply yaq | apply yba)); exact (e2 h0_)) hb) (fun _ h_ => by first | trivial | exact h_ | exact h_.1))
              clear a2; clear a4; clear a3; clear d6; clear g0; clear g6; clear a5; clear a7; clear a6; clear b1; clear b2; clear b4; clear b5; clear HB; have a2 := n0_; have a4 := n1_; have a3 := n2_; have d6 := n3_; have g0 := n4_; have g6 := n5_; have l3 := n6_; have a5 := n7_; have a7 := n8_; have a6 := n9_; have b1 := l2; have b2 := m1; have b4 := m4; have b5 := n4; have HB := E2; clear n0_ n1_ n2_ n3_ n4_ n5_ n6_ n7_ n8_ n9_ l2 m1 m4 n4 E2; (try clear hb); (try clear hb2); (try clear hk); (try clear hi); (try clear ho0)
              refine hK.out _ _ ⟨h7, i0, .slice L2 y147.length L3, h8, h5, i1, m3_, (.agg #[.int .i64 H7, .int .i64 H8, h8]), i3, (by rw [ha.out]; exact ybf 10 hb_ rfl rfl rfl), (upQ a2.out), (upV a4.out), (upQ a3.out), (upB a5.out), (upB a7.out), (upB a6.out), (upB b1.out), (upB b2.out), (upB b4.out), (upB b5.out), (by repeat (with_reducible first | exact HB.out | apply yaf | apply yad | apply yae | refine yai ?_ (Aside0.out ‹_›))), fun _ => (upR d6.out), fun _ => yal (upV g0.out) (fun _ hk => by first | exact hk | grind), fun _ => (upR g6.out), fun _ => (by (with_reducible repeat (first | apply yau | apply yav | apply yax)); exact yal l3.out (fun _ hk => by grind)), E0, offA_ (hoff 15 (by kernel_rfl)), g5, fun _ => rfl, offA_ (hoff 15 (by kernel_rfl))⟩
             refine ybe ?_ ?_
             ·
              rintro b a w' ⟨h7, i0, h4, h8, h5, i1, m3_, i2, i3, ha, a8, a9, b0, b7, b8, b9, d0, d1, d2, d3, Q_HB, d4, d5, e1, f5, e2, f9, g5, g3, g9⟩ hb_ hon hoff
              refine ⟨_, rfl, fun K hK => ?_⟩; have e5 : a.tmps[5]? = some (.pointer (some ⟨d9, 0, none⟩)) := (by rw [ha]; exact (putSel_off rfl).trans rfl); have m3 : a.tmps[118]? = some (.bool true) := (by rw [ha]; exact yar (e := (6, 118, .bool true)) 6 rfl rfl (hon 6 (by kernel_rfl)) rfl); replace ha := yaa ha; have a2 := yaa a8; have a4 := yaa a9; have a3 := yaa b0; have a5 := yaa b7; have a7 := yaa b8; have a6 := yaa b9; have b1 := yaa d0; have b2 := yaa d1; have b4 := yaa d2; have b5 := yaa d3; have HB := yaa Q_HB; have d6 := yaa (d4 (hon 2 (by kernel_rfl))); have g0 := yaa (d5 (hon 3 (by kernel_rfl))); obtain ⟨hc0_, hc1_, hc2_⟩ := cc3_ a5.out
              refine value_ (w1 := w') (v := .agg #[.int .i64 e3, .int .i64 e4, .slice g8 e0.length g7]) (wanted_on rfl rfl rfl (m3.trans (by first | rfl | (simp [*]; done)))) rfl ?_ ?_
              ·
               go_simp
               (try simp only [i64_w])
               try rfl
              refine hK.out _ _ ⟨h7, i0, h4, h8, h5, i1, m3_, i2, i3, (by rw [ha.out]; exact ybf 11 hb_ rfl rfl rfl), a8, a9, b0, b7, b8, b9, d0, d1, d2, d3, Q_HB, d4, d5, e1, f5, e2, offA_ (hoff 15 (by kernel_rfl)), g5, g3, offA_ (hoff 15 (by kernel_rfl))⟩
             refine ybe ?_ ?_
             ·
              rintro b a w' ⟨h7, i0, h4, h8, h5, i1, m3_, i2, i3, ha, a8, a9, b0, b7, b8, b9, d0, d1, d2, d3, Q_HB, d4, d5, e1, f5, e2, f9, g5, g3, g9⟩ hb_ hon hoff
              refine ⟨_, rfl, fun K hK => ?_⟩; have e14 : a.tmps[14]? = some (.pointer (some ⟨f6, 0, none⟩)) := (by rw [ha]; exact (putSel_off rfl).trans rfl); have m3 : a.tmps[118]? = some (.bool true) := (by rw [ha]; exact yar (e := (6, 118, .bool true)) 6 rfl rfl (hon 6 (by kernel_rfl)) rfl); replace ha := yaa ha; have a2 := yaa a8; have a4 := yaa a9; have a3 := yaa b0; have a5 := yaa b7; have a7 := yaa b8; have a6 := yaa b9; have b1 := yaa d0; have b2 := yaa d1; have b4 := yaa d2; have b5 := yaa d3; have HB := yaa Q_HB; have d6 := yaa (d4 (hon 2 (by kernel_rfl))); have g0 := yaa (d5 (hon 3 (by kernel_rfl))); obtain ⟨hc0_, hc1_, hc2_, hc3_, hc4_⟩ := cc5_ b4.out
              refine value_ (w1 := w') (v := .agg #[.int .i64 5, .int .i64 0, .int .i64 0, .int .i64 0, .int .i64 0]) (wanted_on rfl rfl rfl (m3.trans (by first | rfl | (simp [*]; done)))) rfl ?_ ?_
              ·
               go_simp
               (try simp only [i64_w])
               try rfl
              refine hK.out _ _ ⟨h7, i0, h4, h8, h5, i1, m3_, i2, i3, (by rw [ha.out]; exact ybf 12 hb_ rfl rfl rfl), a8, a9, b0, b7, b8, b9, d0, d1, d2, d3, Q_HB, d4, d5, e1, f5, offA_ (hoff 14 (by kernel_rfl)), offA_ (hoff 15 (by kernel_rfl)), g5, g3, offA_ (hoff 15 (by kernel_rfl))⟩
             refine ybe ?_ ?_
             ·
              rintro b a w' ⟨h7, i0, h4, h8, h5, i1, m3_, i2, i3, ha, a8, a9, b0, b7, b8, b9, d0, d1, d2, d3, Q_HB, d4, d5, e1, f5, e2, f9, g5, g3, g9⟩ hb_ hon hoff
              refine ⟨_, rfl, fun K hK => ?_⟩; have e7 : a.tmps[7]? = some (.pointer (some ⟨d7, 0, none⟩)) := (by rw [ha]; exact (putSel_off rfl).trans rfl); have m3 : a.tmps[118]? = some (.bool true) := (by rw [ha]; exact yar (e := (6, 118, .bool true)) 6 rfl rfl (hon 6 (by kernel_rfl)) rfl); replace ha := yaa ha; have a2 := yaa a8; have a4 := yaa a9; have a3 := yaa b0; have a5 := yaa b7; have a7 := yaa b8; have a6 := yaa b9; have b1 := yaa d0; have b2 := yaa d1; have b4 := yaa d2; have b5 := yaa d3; have HB := yaa Q_HB; have d6 := yaa (d4 (hon 2 (by kernel_rfl))); have g0 := yaa (d5 (hon 3 (by kernel_rfl))); have hc0_ : w'.cell? ⟨d7, 0, none⟩ = some (.int .i64 7) := (ybh a6.out 0).trans rfl; have hc1_ : w'.cell? ⟨d7, 1, none⟩ = some (.int .i64 (1 + ((l1.length : Int) % 6))) := (ybh a6.out 1).trans rfl; have hc2_ : w'.cell? ⟨d7, 2, none⟩ = some (.int .i64 (wrap64 (1 + (Int.tmod (wrap64 ((l1.length : Int) / 7)) 6)))) := (ybh a6.out 2).trans rfl; have hc3_ : w'.cell? ⟨d7, 3, none⟩ = some (.int .i64 0) := (ybh a6.out 3).trans rfl; have hc4_ : w'.cell? ⟨d7, 4, none⟩ = some (.int .i64 0) := (ybh a6.out 4).trans rfl
              refine value_ (w1 := w') (v := .agg #[.int .i64 7, .int .i64 (1 + ((l1.length : Int) % 6)), .int .i64 (wrap64 (1 + (Int.tmod (wrap64 ((l1.length : Int) / 7)) 6))), .int .i64 0, .int .i64 0]) (wanted_on rfl rfl rfl (m3.trans (by first | rfl | (simp [*]; done)))) rfl ?_ ?_
              ·
               go_simp
               (try simp only [i64_w])
               try rfl
              refine hK.out _ _ ⟨h7, i0, h4, h8, h5, i1, m3_, i2, i3, (by rw [ha.out]; exact ybf 13 hb_ rfl rfl rfl), a8, a9, b0, b7, b8, b9, d0, d1, d2, d3, Q_HB, d4, d5, e1, f5, offA_ (hoff 14 (by kernel_rfl)), offA_ (hoff 15 (by kernel_rfl)), g5, g3, offA_ (hoff 15 (by kernel_rfl))⟩
             refine ybe ?_ ?_
             ·
              rintro b a w' ⟨h7, i0, h4, h8, h5, i1, m3_, i2, i3, ha, a8, a9, b0, b7, b8, b9, d0, d1, d2, d3, Q_HB, d4, d5, e1, f5, e2, f9, g5, g3, g9⟩ hb_ hon hoff
              refine ⟨_, rfl, fun K hK => ?_⟩; have fE : a.tmps[124]? = some (.agg #[.int .i64 5, .int .i64 0, .int .i64 0, .int .i64 0, .int .i64 0]) := (by rw [ha]; exact yar (e := (12, 124, .agg #[.int .i64 5, .int .i64 0, .int .i64 0, .int .i64 0, .int .i64 0])) 12 rfl rfl (hon 12 (by kernel_rfl)) rfl); have fF : a.tmps[125]? = some (.agg #[.int .i64 7, .int .i64 (1 + ((l1.length : Int) % 6)), .int .i64 (wrap64 (1 + (Int.tmod (wrap64 ((l1.length : Int) / 7)) 6))), .int .i64 0, .int .i64 0]) := (by rw [ha]; exact yar (e := (13, 125, .agg #[.int .i64 7, .int .i64 (1 + ((l1.length : Int) % 6)), .int .i64 (wrap64 (1 + (Int.tmod (wrap64 ((l1.length : Int) / 7)) 6))), .int .i64 0, .int .i64 0])) 13 rfl rfl (hon 13 (by kernel_rfl)) rfl); have m3 : a.tmps[118]? = some (.bool true) := (by rw [ha]; exact yar (e := (6, 118, .bool true)) 6 rfl rfl (hon 6 (by kernel_rfl)) rfl); replace ha := yaa ha; have a2 := yaa a8; have a4 := yaa a9; have a3 := yaa b0; have a5 := yaa b7; have a7 := yaa b8; have a6 := yaa b9; have b1 := yaa d0; have b2 := yaa d1; have b4 := yaa d2; have b5 := yaa d3; have HB := yaa Q_HB; have d6 := yaa (d4 (hon 2 (by kernel_rfl))); have g0 := yaa (d5 (hon 3 (by kernel_rfl)))
              refine Kd.R_lit_step k27 _ 27 ?hg (N := 126) ?hd (xs := ([(⟨5, 0, 0, 0, 0⟩ : S27), (⟨7, (1 + ((l1.length : Int) % 6)), (wrap64 (1 + (Int.tmod (wrap64 ((l1.length : Int) / 7)) 6))), 0, 0⟩ : S27)] : List (S27))) (inner := [.int .i64 5, .int .i64 0, .int .i64 0, .int .i64 0, .int .i64 0, .int .i64 7, .int .i64 (1 + ((l1.length : Int) % 6)), .int .i64 (wrap64 (1 + (Int.tmod (wrap64 ((l1.length : Int) / 7)) 6))), .int .i64 0, .int .i64 0]) (ok := fun _ => True) (okp := fun _ => True) ?hr ?hp (fun _ hk => hk) trivial (Below.refl _ _) (Nat.le_refl _) (by simp) ?_; (case hd => rfl); (case hg => first | rfl | (simp [Region.wanted, yielded, *]; done)); (case hr => first | (go_simp; done) | (go_simp; rfl)); (case hp => exact (Reps.c5 (show Kd.M k27 _ _ _ (⟨5, 0, 0, 0, 0⟩ : S27) [.int .i64 5, .int .i64 0, .int .i64 0, .int .i64 0, .int .i64 0] from (k27_mkM _ _ _ (⟨5, 0, 0, 0, 0⟩ : S27) )) (Reps.c5 (show Kd.M k27 _ _ _ (⟨7, (1 + ((l1.length : Int) % 6)), (wrap64 (1 + (Int.tmod (wrap64 ((l1.length : Int) / 7)) 6))), 0, 0⟩ : S27) [.int .i64 7, .int .i64 (1 + ((l1.length : Int) % 6)), .int .i64 (wrap64 (1 + (Int.tmod (wrap64 ((l1.length : Int) / 7)) 6))), .int .i64 0, .int .i64 0] from (k27_mkM _ _ _ (⟨7, (1 + ((l1.length : Int) % 6)), (wrap64 (1 + (Int.tmod (wrap64 ((l1.length : Int) / 7)) 6))), 0, 0⟩ : S27) )) (Reps.none _ _))))
              intro h5 w155 j3 hb hg_ hnew_; clear hg_ hnew_
              (first | rw [← Ny155.out] at j3 | (simp only [Int.reduceToNat] at j3; rw [← Ny155.out] at j3))
              have n0_ := yaa (yak (upQ a2.out) hb); have n1_ := yaa (Kd.V_elder' (upV a4.out) (Kd.R_base j3) hb); have n2_ := yaa (yak (upQ a3.out) hb); have n3_ := yaa (Kd.R_elder' (upR d6.out) (Kd.R_base j3) hb); have n4_ := yaa (Kd.V_elder' (upV g0.out) (Kd.R_base j3) hb)
              have n5_ := yaa (Kd.R_lower (Kd.R_newB (Kd.R_newB (Kd.R_newB (Kd.R_newB (Kd.R_new' j3 (Kd.R_lt (upR d6.out))) (upB a7.out)) (upB a6.out)) (upB b4.out)) (upB b5.out)) (ybc (by repeat (with_reducible first | exact HB.out | apply yaf | apply yad | apply yae | refine yai ?_ (Aside0.out ‹_›)))))
              have n6_ := yaa (yac (upB a5.out) hb); have n7_ := yaa (yac (upB a7.out) hb); have n8_ := yaa (yac (upB a6.out) hb); have n9_ := yaa (yac (upB b1.out) hb); have l2 := yaa (yac (upB b2.out) hb); have m1 := yaa (yac (upB b4.out) hb); have m4 := yaa (yac (upB b5.out) hb)
              have n4 := yaa (yan (by repeat (with_reducible first | exact HB.out | apply yaf | apply yad | apply yae | refine yai ?_ (Aside0.out ‹_›))) hb)
              have J9 := fun (h0_ : b 9 = true) => (show Kd.R k27 27 w155 w.heap.size (fun k_ => k_ ≠ d8 ∧ k_ ≠ d7 ∧ k_ ≠ f6 ∧ k_ ≠ b3) h4 y147 from by first | exact (Kd.R_elder' (by (with_reducible repeat (first | apply yap | apply yaq | apply yba)); exact (e1 h0_)) (Kd.R_base j3) hb) | exact ybk (Kd.R_elder' (by (with_reducible repeat (first | apply yap | apply yaq | apply yba)); exact (e1 h0_)) (Kd.R_base j3) hb) (fun _ h_ => by first | trivial | exact h_ | exact h_.1))
              have K0 := fun (h0_ : b 10 = true) => (show Kd.V k36 36 w155 w.heap.size (fun k_ => some k_ ≠ (.slice g4 f7.length g2 : Value).ownBlock ∧ k_ ≠ d9 ∧ k_ ≠ d8 ∧ k_ ≠ d7 ∧ k_ ≠ e6 ∧ k_ ≠ b6 ∧ k_ ≠ f6 ∧ k_ ≠ b3) h8 F5 from by first | exact (Kd.V_elder' (by (with_reducible repeat (first | apply yau | apply yav | apply yax)); exact (f5 h0_)) (Kd.R_base j3) hb) | exact yal (Kd.V_elder' (by (with_reducible repeat (first | apply yau | apply yav | apply yax)); exact (f5 h0_)) (Kd.R_base j3) hb) (fun _ h_ => by first | trivial | exact h_ | exact h_.1))
              clear a2; clear a4; clear a3; clear d6; clear g0; clear a5; clear a7; clear a6; clear b1; clear b2; clear b4; clear b5; clear HB; have a2 := n0_; have a4 := n1_; have a3 := n2_; have d6 := n3_; have g0 := n4_; have h3 := n5_; have a5 := n6_; have a7 := n7_; have a6 := n8_; have b1 := n9_; have b2 := l2; have b4 := m1; have b5 := m4; have HB := n4; clear n0_ n1_ n2_ n3_ n4_ n5_ n6_ n7_ n8_ n9_ l2 m1 m4 n4; clear hb j3
              refine hK.out _ _ ⟨h7, i0, h4, h8, h5, i1, m3_, i2, i3, (by rw [ha.out]; exact ybf 14 hb_ rfl rfl rfl), (upQ a2.out), (by (with_reducible repeat (first | apply yau | apply yav | apply yax)); exact yal a4.out (fun _ hk => by grind)), (upQ a3.out), (upB a5.out), (upB a7.out), (upB a6.out), (upB b1.out), (upB b2.out), (upB b4.out), (upB b5.out), (by repeat (with_reducible first | exact HB.out | apply yaf | apply yad | apply yae | refine yai ?_ (Aside0.out ‹_›))), fun _ => (by (with_reducible repeat (first | apply yap | apply yaq | apply yba)); exact ybk d6.out (fun _ hk => by grind)), fun _ => (by (with_reducible repeat (first | apply yau | apply yav | apply yax)); exact yal g0.out (fun _ hk => by grind)), J9, K0, fun _ => (by (with_reducible repeat (first | apply yap | apply yaq | apply yba)); exact ybk h3.out (fun _ hk => by grind)), offA_ (hoff 15 (by kernel_rfl)), g5, g3, offA_ (hoff 15 (by kernel_rfl))⟩
             refine ybe ?_ ?_
             ·
              rintro b a w' ⟨h7, i0, h4, h8, h5, i1, m3_, i2, i3, ha, a8, a9, b0, b7, b8, b9, d0, d1, d2, d3, Q_HB, d4, d5, e1, f5, e2, f9, g5, g3, g9⟩ hb_ hon hoff
              refine ⟨_, rfl, fun K hK => ?_⟩; have S8 : a.tmps[123]? = some (.agg #[.int .i64 e3, .int .i64 e4, .slice g8 e0.length g7]) := (by rw [ha]; exact yar (e := (11, 123, .agg #[.int .i64 e3, .int .i64 e4, .slice g8 e0.length g7])) 11 rfl rfl (hon 11 (by kernel_rfl)) rfl); have S9 : a.tmps[126]? = some (h5) := (by rw [ha]; exact yar (e := (14, 126, h5)) 14 rfl rfl (hon 14 (by kernel_rfl)) rfl); have m3 : a.tmps[118]? = some (.bool true) := (by rw [ha]; exact yar (e := (6, 118, .bool true)) 6 rfl rfl (hon 6 (by kernel_rfl)) rfl); replace ha := yaa ha; have a2 := yaa a8; have a4 := yaa a9; have a3 := yaa b0; have a5 := yaa b7; have a7 := yaa b8; have a6 := yaa b9; have b1 := yaa d0; have b2 := yaa d1; have b4 := yaa d2; have b5 := yaa d3; have HB := yaa Q_HB; have d6 := yaa (d4 (hon 2 (by kernel_rfl))); have g0 := yaa (d5 (hon 3 (by kernel_rfl))); have g6 := yaa (e1 (hon 9 (by kernel_rfl))); have l3 := yaa (f5 (hon 10 (by kernel_rfl))); have h3 := yaa (e2 (hon 14 (by kernel_rfl))); obtain ⟨I4, I5, L5⟩ := Kd.R_slice h3.out
              (first | subst L5 | (injection L5 with f1_ f2_ f3_; have f4_ := f1_.symm; have f5_ := f3_.symm; clear f1_ f2_ f3_; subst f4_; subst f5_))
              refine goes_ Try.func15 (by kernel_rfl) rfl #[.agg #[.int .i64 e3, .int .i64 e4, .slice g8 e0.length g7], .slice I4 y155.length I5] (by first | rfl | (simp [Region.wanted, yielded, *]; done)) rfl rfl (by first | (simp only [List.map_toArray, List.map_cons, List.map_nil, Act.eval, Array.getD_eq_getD_getElem?, Option.getD_some, S8, S9, m3]; done) | (simp only [List.map_toArray, List.map_cons, List.map_nil, Act.eval, Array.getD_eq_getD_getElem?, Option.getD_some, S8, S9, m3]; rfl)) ?_
              with_reducible refine (laws_eaDo.calls k3 e3 e4 (fun k_ => some k_ = (.slice g8 e0.length g7 : Value).ownBlock) _ _ e0 _ _ y155 H9 I0 I1 _ ?side1 ?side2 ?side3 Z3.out).mono ?_
              (case side1 => exact Kd.Q_V (Kd.Q_tight rfl (yab (yab (yab (yab (yab (yab (yab (yag (yag (yag (a2.out) (yaj d6.out) (by decide)) (yaj g6.out) (by decide)) (yaj h3.out) (by decide)) a5.out (by decide)) a7.out (by decide)) a6.out (by decide)) b1.out (by decide)) b2.out (by decide)) b4.out (by decide)) b5.out (by decide))))
              (case side2 => repeat (first | exact (ybl h3.out).2.2 | (with_reducible refine Kd.C_alloc ?_ _) | (with_reducible refine Kd.C_drewN ?_ _) | (with_reducible refine Kd.C_drew ?_)))
              (case side3 => exact (ybl h3.out).2.1)
              rintro e w162 ⟨i1, rfl, ho0, hb⟩; refine ⟨_, rfl, ?_⟩; have n0_ := yaa (yak (upQ a2.out) hb); have n1_ := yaa (ybd (upV a4.out) hb); have n2_ := yaa (yak (upQ a3.out) hb); have n3_ := yaa (yas (upR d6.out) hb); have n4_ := yaa (ybd (upV g0.out) hb); have n5_ := yaa (yas (upR g6.out) hb); have n6_ := yaa (ybd (upV l3.out) hb); have n7_ := yaa (yas (upR h3.out) hb)
              have n8_ := yaa (Kd.V_lower (yal (ok' := fun k_ => some k_ ≠ (.slice g4 f7.length g2 : Value).ownBlock ∧ some k_ ≠ (h7 : Value).ownBlock ∧ some k_ ≠ (h4 : Value).ownBlock ∧ some k_ ≠ (.slice I4 y155.length I5 : Value).ownBlock ∧ k_ ≠ d9 ∧ k_ ≠ d8 ∧ k_ ≠ d7 ∧ k_ ≠ e6 ∧ k_ ≠ b6 ∧ k_ ≠ f6 ∧ k_ ≠ b3) ho0 (fun k_ hk_ => ⟨Or.elim hk_ (fun hs_ => ((yab (yab (yab (yab (yab (yab (yab (yag (yag (yag (a2.out) (yaj d6.out) (by decide)) (yaj g6.out) (by decide)) (yaj h3.out) (by decide)) a5.out (by decide)) a7.out (by decide)) a6.out (by decide)) b1.out (by decide)) b2.out (by decide)) b4.out (by decide)) b5.out (by decide)).1 k_ hs_.symm).1.1.1.1.1.1.1.1.1.1) (fun hn_ => (Kd.fresh' (Kd.Q_lt (upQ a3.out)) k_ hn_)), Or.elim hk_ (fun hs_ => ((yab (yab (yab (yab (yab (yab (yab (yag (yag (yag (a2.out) (yaj d6.out) (by decide)) (yaj g6.out) (by decide)) (yaj h3.out) (by decide)) a5.out (by decide)) a7.out (by decide)) a6.out (by decide)) b1.out (by decide)) b2.out (by decide)) b4.out (by decide)) b5.out (by decide)).1 k_ hs_.symm).1.1.1.1.1.1.1.1.1.2) (fun hn_ => (Kd.fresh' (Kd.R_lt (upR d6.out)) k_ hn_)), Or.elim hk_ (fun hs_ => ((yab (yab (yab (yab (yab (yab (yab (yag (yag (yag (a2.out) (yaj d6.out) (by decide)) (yaj g6.out) (by decide)) (yaj h3.out) (by decide)) a5.out (by decide)) a7.out (by decide)) a6.out (by decide)) b1.out (by decide)) b2.out (by decide)) b4.out (by decide)) b5.out (by decide)).1 k_ hs_.symm).1.1.1.1.1.1.1.1.2) (fun hn_ => (Kd.fresh' (Kd.R_lt (upR g6.out)) k_ hn_)), Or.elim hk_ (fun hs_ => ((yab (yab (yab (yab (yab (yab (yab (yag (yag (yag (a2.out) (yaj d6.out) (by decide)) (yaj g6.out) (by decide)) (yaj h3.out) (by decide)) a5.out (by decide)) a7.out (by decide)) a6.out (by decide)) b1.out (by decide)) b2.out (by decide)) b4.out (by decide)) b5.out (by decide)).1 k_ hs_.symm).1.1.1.1.1.1.1.2) (fun hn_ => (Kd.fresh' (Kd.R_lt (upR h3.out)) k_ hn_)), Or.elim hk_ (fun hs_ => ((yab (yab (yab (yab (yab (yab (yab (yag (yag (yag (a2.out) (yaj d6.out) (by decide)) (yaj g6.out) (by decide)) (yaj h3.out) (by decide)) a5.out (by decide)) a7.out (by decide)) a6.out (by decide)) b1.out (by decide)) b2.out (by decide)) b4.out (by decide)) b5.out (by decide)).1 k_ hs_.symm).1.1.1.1.1.1.2) (fun hn_ => (yaz (upB a5.out) k_ hn_)), Or.elim hk_ (fun hs_ => ((yab (yab (yab (yab (yab (yab (yab (yag (yag (yag (a2.out) (yaj d6.out) (by decide)) (yaj g6.out) (by decide)) (yaj h3.out) (by decide)) a5.out (by decide)) a7.out (by decide)) a6.out (by decide)) b1.out (by decide)) b2.out (by decide)) b4.out (by decide)) b5.out (by decide)).1 k_ hs_.symm).1.1.1.1.1.2) (fun hn_ => (yaz (upB a7.out) k_ hn_)), Or.elim hk_ (fun hs_ => ((yab (yab (yab (yab (yab (yab (yab (yag (yag (yag (a2.out) (yaj d6.out) (by decide)) (yaj g6.out) (by decide)) (yaj h3.out) (by decide)) a5.out (by decide)) a7.out (by decide)) a6.out (by decide)) b1.out (by decide)) b2.out (by decide)) b4.out (by decide)) b5.out (by decide)).1 k_ hs_.symm).1.1.1.1.2) (fun hn_ => (yaz (upB a6.out) k_ hn_)), Or.elim hk_ (fun hs_ => ((yab (yab (yab (yab (yab (yab (yab (yag (yag (yag (a2.out) (yaj d6.out) (by decide)) (yaj g6.out) (by decide)) (yaj h3.out) (by decide)) a5.out (by decide)) a7.out (by decide)) a6.out (by decide)) b1.out (by decide)) b2.out (by decide)) b4.out (by decide)) b5.out (by decide)).1 k_ hs_.symm).1.1.1.2) (fun hn_ => (yaz (upB b1.out) k_ hn_)), Or.elim hk_ (fun hs_ => ((yab (yab (yab (yab (yab (yab (yab (yag (yag (yag (a2.out) (yaj d6.out) (by decide)) (yaj g6.out) (by decide)) (yaj h3.out) (by decide)) a5.out (by decide)) a7.out (by decide)) a6.out (by decide)) b1.out (by decide)) b2.out (by decide)) b4.out (by decide)) b5.out (by decide)).1 k_ hs_.symm).1.1.2) (fun hn_ => (yaz (upB b2.out) k_ hn_)), Or.elim hk_ (fun hs_ => ((yab (yab (yab (yab (yab (yab (yab (yag (yag (yag (a2.out) (yaj d6.out) (by decide)) (yaj g6.out) (by decide)) (yaj h3.out) (by decide)) a5.out (by decide)) a7.out (by decide)) a6.out (by decide)) b1.out (by decide)) b2.out (by decide)) b4.out (by decide)) b5.out (by decide)).1 k_ hs_.symm).1.2) (fun hn_ => (yaz (upB b4.out) k_ hn_)), Or.elim hk_ (fun hs_ => ((yab (yab (yab (yab (yab (yab (yab (yag (yag (yag (a2.out) (yaj d6.out) (by decide)) (yaj g6.out) (by decide)) (yaj h3.out) (by decide)) a5.out (by decide)) a7.out (by decide)) a6.out (by decide)) b1.out (by decide)) b2.out (by decide)) b4.out (by decide)) b5.out (by decide)).1 k_ hs_.symm).2) (fun hn_ => (yaz (upB b5.out) k_ hn_))⟩)) (ybc (by repeat (with_reducible first | exact HB.out | apply yaf | apply yad | apply yae | refine yai ?_ (Aside0.out ‹_›)))))
              have n9_ := yaa (yac (upB a5.out) hb); have l2 := yaa (yac (upB a7.out) hb); have m1 := yaa (yac (upB a6.out) hb); have m4 := yaa (yac (upB b1.out) hb); have n4 := yaa (yac (upB b2.out) hb); have E2 := yaa (yac (upB b4.out) hb); have I6 := yaa (yac (upB b5.out) hb)
              have I7 := yaa (yan (by repeat (with_reducible first | exact HB.out | apply yaf | apply yad | apply yae | refine yai ?_ (Aside0.out ‹_›))) hb)
              clear a2; clear a4; clear a3; clear d6; clear g0; clear g6; clear l3; clear h3; clear a5; clear a7; clear a6; clear b1; clear b2; clear b4; clear b5; clear HB; have a2 := n0_; have a4 := n1_; have a3 := n2_; have d6 := n3_; have g0 := n4_; have g6 := n5_; have l3 := n6_; have h3 := n7_; have m5 := n8_; have a5 := n9_; have a7 := l2; have a6 := m1; have b1 := m4; have b2 := n4; have b4 := E2; have b5 := I6; have HB := I7; clear n0_ n1_ n2_ n3_ n4_ n5_ n6_ n7_ n8_ n9_ l2 m1 m4 n4 E2 I6 I7; (try clear hb); (try clear hb2); (try clear hk); (try clear hi); (try clear ho0)
              refine hK.out _ _ ⟨h7, i0, h4, h8, .slice I4 y155.length I5, i1, m3_, i2, (.agg #[.int .i64 H9, .int .i64 I0, i1]), (by rw [ha.out]; exact ybf 15 hb_ rfl rfl rfl), (upQ a2.out), (upV a4.out), (upQ a3.out), (upB a5.out), (upB a7.out), (upB a6.out), (upB b1.out), (upB b2.out), (upB b4.out), (upB b5.out), (by repeat (with_reducible first | exact HB.out | apply yaf | apply yad | apply yae | refine yai ?_ (Aside0.out ‹_›))), fun _ => (upR d6.out), fun _ => yal (upV g0.out) (fun _ hk => by first | exact hk | grind), fun _ => (upR g6.out), fun _ => yal (upV l3.out) (fun _ hk => by first | exact hk | grind), fun _ => (upR h3.out), fun _ => (by (with_reducible repeat (first | apply yau | apply yav | apply yax)); exact yal m5.out (fun _ hk => by grind)), g5, g3, fun _ => rfl⟩
             refine ybe ?_ ?_
             ·
              rintro b a w' ⟨h7, i0, h4, h8, h5, i1, m3_, i2, i3, ha, a8, a9, b0, b7, b8, b9, d0, d1, d2, d3, Q_HB, d4, d5, e1, f5, e2, f9, g5, g3, g9⟩ hb_ hon hoff
              refine ⟨_, rfl, fun K hK => ?_⟩; have M5 : a.tmps[122]? = some (i2) := (by rw [ha]; exact yar (e := (10, 122, i2)) 10 rfl rfl (hon 10 (by kernel_rfl)) rfl)
              rw [g3 (hon 10 (by kernel_rfl))] at M5
              have M6 : a.tmps[127]? = some (i3) := (by rw [ha]; exact yar (e := (15, 127, i3)) 15 rfl rfl (hon 15 (by kernel_rfl)) rfl)
              rw [g9 (hon 15 (by kernel_rfl))] at M6
              have m3 : a.tmps[118]? = some (.bool true) := (by rw [ha]; exact yar (e := (6, 118, .bool true)) 6 rfl rfl (hon 6 (by kernel_rfl)) rfl); replace ha := yaa ha; have a2 := yaa a8; have a4 := yaa a9; have a3 := yaa b0; have a5 := yaa b7; have a7 := yaa b8; have a6 := yaa b9; have b1 := yaa d0; have b2 := yaa d1; have b4 := yaa d2; have b5 := yaa d3; have HB := yaa Q_HB; have d6 := yaa (d4 (hon 2 (by kernel_rfl))); have g0 := yaa (d5 (hon 3 (by kernel_rfl))); have g6 := yaa (e1 (hon 9 (by kernel_rfl))); have l3 := yaa (f5 (hon 10 (by kernel_rfl))); have h3 := yaa (e2 (hon 14 (by kernel_rfl))); have m5 := yaa (f9 (hon 15 (by kernel_rfl))); obtain ⟨L6, L7, L8⟩ := Kd.V_slice l3.out
              (first | subst L8 | (injection L8 with f1_ f2_ f3_; have f4_ := f1_.symm; have f5_ := f3_.symm; clear f1_ f2_ f3_; subst f4_; subst f5_))
              obtain ⟨L9, M0, M1⟩ := Kd.V_slice m5.out
              (first | subst M1 | (injection M1 with f1_ f2_ f3_; have f4_ := f1_.symm; have f5_ := f3_.symm; clear f1_ f2_ f3_; subst f4_; subst f5_))
              refine goes_ Try.func13 (by kernel_rfl) rfl #[.agg #[.int .i64 H7, .int .i64 H8, .slice L6 F5.length L7], .agg #[.int .i64 H9, .int .i64 I0, .slice L9 I1.length M0]] (by first | rfl | (simp [Region.wanted, yielded, *]; done)) rfl rfl (by first | (simp only [List.map_toArray, List.map_cons, List.map_nil, Act.eval, Array.getD_eq_getD_getElem?, Option.getD_some, M5, M6, m3]; done) | (simp only [List.map_toArray, List.map_cons, List.map_nil, Act.eval, Array.getD_eq_getD_getElem?, Option.getD_some, M5, M6, m3]; rfl)) ?_
              with_reducible refine (laws_eaRas.calls k3 H7 H8 _ _ F5 H9 I0 _ _ I1 o3 _ ?side1 ?side2 ?side3 ?side4 Z4.out).mono ?_
              (case side1 => repeat (first | exact (ybm l3.out).2.2 | (with_reducible refine Kd.C_alloc ?_ _) | (with_reducible refine Kd.C_drewN ?_ _) | (with_reducible refine Kd.C_drew ?_)))
              (case side2 => exact (ybm l3.out).2.1)
              (case side3 => repeat (first | exact (ybm m5.out).2.2 | (with_reducible refine Kd.C_alloc ?_ _) | (with_reducible refine Kd.C_drewN ?_ _) | (with_reducible refine Kd.C_drew ?_)))
              (case side4 => exact (ybm m5.out).2.1)
              rintro e w165 ⟨rfl, hb⟩; refine ⟨_, rfl, ?_⟩; have n0_ := yaa (yak (upQ a2.out) hb); have n1_ := yaa (ybd (upV a4.out) hb); have n2_ := yaa (yak (upQ a3.out) hb); have n3_ := yaa (yas (upR d6.out) hb); have n4_ := yaa (ybd (upV g0.out) hb); have n5_ := yaa (yas (upR g6.out) hb); have n6_ := yaa (ybd (upV l3.out) hb); have n7_ := yaa (yas (upR h3.out) hb); have n8_ := yaa (ybd (upV m5.out) hb); have n9_ := yaa (yac (upB a5.out) hb); have l2 := yaa (yac (upB a7.out) hb); have m1 := yaa (yac (upB a6.out) hb); have m4 := yaa (yac (upB b1.out) hb); have n4 := yaa (yac (upB b2.out) hb); have E2 := yaa (yac (upB b4.out) hb); have I6 := yaa (yac (upB b5.out) hb)
              have I7 := yaa (yan (by repeat (with_reducible first | exact HB.out | apply yaf | apply yad | apply yae | refine yai ?_ (Aside0.out ‹_›))) hb)
              clear a2; clear a4; clear a3; clear d6; clear g0; clear g6; clear l3; clear h3; clear m5; clear a5; clear a7; clear a6; clear b1; clear b2; clear b4; clear b5; clear HB; have a2 := n0_; have a4 := n1_; have a3 := n2_; have d6 := n3_; have g0 := n4_; have g6 := n5_; have l3 := n6_; have h3 := n7_; have m5 := n8_; have a5 := n9_; have a7 := l2; have a6 := m1; have b1 := m4; have b2 := n4; have b4 := E2; have b5 := I6; have HB := I7; clear n0_ n1_ n2_ n3_ n4_ n5_ n6_ n7_ n8_ n9_ l2 m1 m4 n4 E2 I6 I7; (try clear hb); (try clear hb2); (try clear hk); (try clear hi)
              refine hK.out _ _ ⟨h7, i0, h4, .slice L6 F5.length L7, h5, .slice L9 I1.length M0, m3_, i2, i3, (by rw [ha.out]; exact ybf 16 hb_ rfl rfl rfl), (upQ a2.out), (upV a4.out), (upQ a3.out), (upB a5.out), (upB a7.out), (upB a6.out), (upB b1.out), (upB b2.out), (upB b4.out), (upB b5.out), (by repeat (with_reducible first | exact HB.out | apply yaf | apply yad | apply yae | refine yai ?_ (Aside0.out ‹_›))), fun _ => (upR d6.out), fun _ => yal (upV g0.out) (fun _ hk => by first | exact hk | grind), fun _ => (upR g6.out), fun _ => yal (upV l3.out) (fun _ hk => by first | exact hk | grind), fun _ => (upR h3.out), fun _ => yal (upV m5.out) (fun _ hk => by first | exact hk | grind), g5, g3, g9⟩
             refine ybe ?_ ?_
             ·
              rintro b a w' ⟨h7, i0, h4, h8, h5, i1, m3_, i2, i3, ha, a8, a9, b0, b7, b8, b9, d0, d1, d2, d3, Q_HB, d4, d5, e1, f5, e2, f9, g5, g3, g9⟩ hb_ hon hoff
              refine ⟨_, rfl, fun K hK => ?_⟩; have m3 : a.tmps[118]? = some (.bool true) := (by rw [ha]; exact yar (e := (6, 118, .bool true)) 6 rfl rfl (hon 6 (by kernel_rfl)) rfl); have fG : a.tmps[128]? = some (.bool o3) := (by rw [ha]; exact yar (e := (16, 128, .bool o3)) 16 rfl rfl (hon 16 (by kernel_rfl)) rfl); replace ha := yaa ha; have a2 := yaa a8; have a4 := yaa a9; have a3 := yaa b0; have a5 := yaa b7; have a7 := yaa b8; have a6 := yaa b9; have b1 := yaa d0; have b2 := yaa d1; have b4 := yaa d2; have b5 := yaa d3; have HB := yaa Q_HB; have d6 := yaa (d4 (hon 2 (by kernel_rfl))); have g0 := yaa (d5 (hon 3 (by kernel_rfl))); have g6 := yaa (e1 (hon 9 (by kernel_rfl))); have l3 := yaa (f5 (hon 10 (by kernel_rfl))); have h3 := yaa (e2 (hon 14 (by kernel_rfl))); have m5 := yaa (f9 (hon 15 (by kernel_rfl)))
              refine value_ (w1 := w') (v := .bool o3) (by rfl) rfl ?_ ?_
              ·
               go_simp
               (try simp only [i64_w])
               try rfl
              refine hK.out _ _ ⟨h7, i0, h4, h8, h5, i1, m3_, i2, i3, (by rw [ha.out]; exact ybf 17 hb_ rfl rfl rfl), a8, a9, b0, b7, b8, b9, d0, d1, d2, d3, Q_HB, d4, d5, e1, f5, e2, f9, g5, g3, g9⟩
             refine ybe ?_ ?_
             ·
              rintro b a w' ⟨h7, i0, h4, h8, h5, i1, m3_, i2, i3, ha, a8, a9, b0, b7, b8, b9, d0, d1, d2, d3, Q_HB, d4, d5, e1, f5, e2, f9, g5, g3, g9⟩ hb_ hon hoff
              refine ⟨_, rfl, fun K hK => ?_⟩; have fH : a.tmps[129]? = some (.bool o3) := (by rw [ha]; exact yar (e := (17, 129, .bool o3)) 17 rfl rfl (hon 17 (by kernel_rfl)) rfl); replace ha := yaa ha; have a2 := yaa a8; have a4 := yaa a9; have a3 := yaa b0; have a5 := yaa b7; have a7 := yaa b8; have a6 := yaa b9; have b1 := yaa d0; have b2 := yaa d1; have b4 := yaa d2; have b5 := yaa d3; have HB := yaa Q_HB; have d6 := yaa (d4 (hon 2 (by kernel_rfl))); have g0 := yaa (d5 (hon 3 (by kernel_rfl))); have g6 := yaa (e1 (hon 9 (by kernel_rfl))); have l3 := yaa (f5 (hon 10 (by kernel_rfl))); have h3 := yaa (e2 (hon 14 (by kernel_rfl))); have m5 := yaa (f9 (hon 15 (by kernel_rfl)))
              refine value_ (w1 := w') (v := .bool o3) (by rfl) rfl ?_ ?_
              ·
               go_simp
               (try simp only [i64_w])
               try rfl
              refine hK.out _ _ ⟨h7, i0, h4, h8, h5, i1, m3_, i2, i3, (by rw [ha.out]; exact ybf 18 hb_ rfl rfl rfl), a8, a9, b0, b7, b8, b9, d0, d1, d2, d3, Q_HB, d4, d5, e1, f5, e2, f9, g5, g3, g9⟩
             exact steps_nil
            rintro b a w165 hall ⟨h7, i0, h4, h8, h5, i1, m3_, i2, i3, ha, a8, a9, b0, b7, b8, b9, d0, d1, d2, d3, Q_HB, d4, d5, e1, f5, e2, f9, g5, g3, g9⟩; clear a5 a7 a6 b1 b2 b4 b5 HB a2 a4 a3; have hb0_ := hall 0 (by kernel_rfl); have hb1_ := hall 1 (by kernel_rfl); have hb2_ := hall 2 (by kernel_rfl); have hb3_ := hall 3 (by kernel_rfl); have hb4_ := hall 4 (by kernel_rfl); have hb5_ := hall 5 (by kernel_rfl); have hb6_ := hall 6 (by kernel_rfl); have hb7_ := hall 7 (by kernel_rfl); have hb8_ := hall 8 (by kernel_rfl); have hb9_ := hall 9 (by kernel_rfl); have hb10_ := hall 10 (by kernel_rfl); have hb11_ := hall 11 (by kernel_rfl); have hb12_ := hall 12 (by kernel_rfl); have hb13_ := hall 13 (by kernel_rfl); have hb14_ := hall 14 (by kernel_rfl); have hb15_ := hall 15 (by kernel_rfl); have hb16_ := hall 16 (by kernel_rfl); have hb17_ := hall 17 (by kernel_rfl); have hb18_ := hall 18 (by kernel_rfl); subst ha; obtain rfl := g5 hb3_; obtain rfl := g3 hb10_; obtain rfl := g9 hb15_
            simp only [putSel, hb0_, hb1_, hb2_, hb3_, hb4_, hb5_, hb6_, hb7_, hb8_, hb9_, hb10_, hb11_, hb12_, hb13_, hb14_, hb15_, hb16_, hb17_, hb18_, if_true, Act.put, List.setIfInBounds_toArray, List.set_cons_zero, List.set_cons_succ]
            have a2 := yaa a8; clear a8; have a4 := yaa a9; clear a9; have a3 := yaa b0; clear b0; have a5 := yaa b7; clear b7; have a7 := yaa b8; clear b8; have a6 := yaa b9; clear b9; have b1 := yaa d0; clear d0; have b2 := yaa d1; clear d1; have b4 := yaa d2; clear d2; have b5 := yaa d3; clear d3; have HB := yaa Q_HB; clear Q_HB; have d6 := yaa (d4 hb2_); clear d4; have g0 := yaa (d5 hb3_); clear d5; have g6 := yaa (e1 hb9_); clear e1; have l3 := yaa (f5 hb10_); clear f5; have h3 := yaa (e2 hb14_); clear e2; have m5 := yaa (f9 hb15_); clear f9; clear hall hb0_ hb1_ hb2_ hb3_ hb4_ hb5_ hb6_ hb7_ hb8_ hb9_ hb10_ hb11_ hb12_ hb13_ hb14_ hb15_ hb16_ hb17_ hb18_
            try go_wp2
            go_ret
            exact ⟨by first | rfl | (simp [*, errW_none, errW_some] <;> rfl), by repeat (with_reducible first | exact HB.out | apply yaf | apply yad | apply yae | refine yai ?_ (Aside0.out ‹_›))⟩
           ·
            replace J8 := Bool.eq_false_iff.mpr J8
            subst J8
            rw [if_neg (show ¬ (false = true) by decide)] at H
            rw [hrt] at H
            exact absurd H (by simp)
    ·
     replace c8 := Bool.eq_false_iff.mpr c8
     subst c8
     rw [if_neg (show ¬ (false = true) by decide)] at H
     replace H := Option.bind_eq_some_iff.mp H; obtain ⟨bF, M2, H⟩ := H; (try dsimp only at H); have bG := yaa M2; clear M2
     by_cases K1 : bF = true
     ·
      subst K1
      rw [if_pos rfl] at H
      rw [hrt] at H
      exact absurd H (by simp)
     ·
      replace K1 := Bool.eq_false_iff.mpr K1
      subst K1
      rw [if_neg (show ¬ (false = true) by decide)] at H
      replace H := Option.bind_eq_some_iff.mp H; obtain ⟨bH, M3, H⟩ := H; (try dsimp only at H); have bI := yaa M3; clear M3; obtain rfl := Option.some.inj H
      go_wp2_with (first | ((with_reducible refine gate_callee (f := 10) rfl ?_); refine gl_ (some 26) rfl Try.func10 #[.slice A0 l0.length c0] ?_; (with_reducible refine (spec_DrawOpDo.calls kj2 _ _ l0 e3 e4 e0 k5 k8 l4 m0 m2 _ ?side1 ?side2 A6.out).mono ?_); (case side1 => repeat (first | exact (Kd.C_below HR0.out HB.out) | (with_reducible refine Kd.C_alloc ?_ _) | (with_reducible refine Kd.C_drewN ?_ _) | (with_reducible refine Kd.C_drew ?_))); (case side2 => exact HC0.out); rintro e w169 ⟨W1, rfl, ho0, hb⟩; refine ⟨_, rfl, ?_⟩; have e9 := yaa (Kd.Q_lower ho0 (ybc (upH HB.out))); replace HB := yaa (yan (upH HB.out) hb); (try clear hb); (try clear hb2); (try clear hk); (try clear hi); (try clear ho0)) | ((with_reducible refine gate_dst (N := 5) rfl ?_); (try (refine gate_guard (by rfl) ?_; dsimp only)); refine bx_ 5 #[.int .i64 0, .int .i64 0, .slice none 0 0] 25 ?_; intro d9 hg w170 hbox hb; replace e9 := yaa (yak (upQ e9.out) hb); have a5 := yaa (hbox); have G8 := yaa ((by rw [hg]; exact (ybc (upH HB.out)) : w.heap.size ≤ d9)); replace HB := yaa (yan (upH HB.out) hb); have M8 := G8; clear hb hbox hg) | ((with_reducible refine gate_dst (N := 6) rfl ?_); (try (refine gate_guard (by rfl) ?_; dsimp only)); refine bx_ 6 #[.int .i64 0, .int .i64 0, .int .i64 0, .int .i64 0, .int .i64 0] 27 ?_; intro d8 hg w171 hbox hb; replace e9 := yaa (yak (upQ e9.out) hb); have a7 := yaa (hbox); have G9 := yaa ((by rw [hg]; exact (ybc (by repeat (with_reducible first | exact HB.out | apply yaf | apply yad | apply yae | refine yai ?_ (Aside0.out ‹_›)))) : w.heap.size ≤ d8)); replace HB := yaa (yan (by repeat (with_reducible first | exact HB.out | apply yaf | apply yad | apply yae | refine yai ?_ (Aside0.out ‹_›))) hb); have M9 := G9; have f8 := yaa ((by rw [hg]; exact Nat.ne_of_lt (blk_lt (upB a5.out)) : d9 ≠ d8)); replace a5 := yaa (yac (upB a5.out) hb); have h0 := yaa f8.out.symm; clear hb hbox hg; have bJ := f8.out; have bK := h0.out; obtain ⟨T0, T1, T2⟩ := cc3_ a5.out; obtain ⟨T3, T4, T5⟩ := cf3_ a5.out; obtain ⟨E3, o5, T6, _⟩ := Kd.Q_slice e9.out; subst T6; obtain ⟨T7, T8, T9, U0, U1⟩ := cc5_ a7.out; obtain ⟨U2, U3, U4, U5⟩ := cf4_ a7.out; have U6 := blk_frozen a7.out 4) | ((with_reducible refine gate_callee (f := 16) rfl ?_); refine gl_ (some 30) rfl Try.func16 #[.agg #[.int .i64 e3, .int .i64 e4, .slice E3 e0.length o5]] ?_; (with_reducible refine (spec_RasOk.calls kj2 e3 e4 _ _ e0 false _ ?side1 ?side2 A7.out).mono ?_); (case side1 => refine (Kd.Q_reads' (e := 36) (base := w.heap.size) (ok := fun k_ => True) (n := e0.length) (c := o5) ?_).2.2; exact (by (with_reducible repeat (first | apply ybi | apply ybj | apply yay)); exact (ybg (ybg (yah (p := ⟨d8, 4, none⟩) (yah (p := ⟨d8, 3, none⟩) (yah (p := ⟨d8, 2, none⟩) (yah (p := ⟨d8, 1, none⟩) (yah (p := ⟨d8, 0, none⟩) (yah (p := ⟨d9, 2, none⟩) (yah (p := ⟨d9, 1, none⟩) (yah (p := ⟨d9, 0, none⟩) (yab (yab e9.out a5.out (by decide)) a7.out (by decide)) (fun _ hk => hk.1.2) (.int .i64 e3)) (fun _ hk => hk.1.2) (.int .i64 e4)) (fun _ hk => hk.1.2) (.slice E3 e0.length o5)) (fun _ hk => hk.2) (.int .i64 k5)) (fun _ hk => hk.2) (.int .i64 k8)) (fun _ hk => hk.2) (.int .i64 l4)) (fun _ hk => hk.2) (.int .i64 m0)) (fun _ hk => hk.2) (.int .i64 m2)) (fun _ h_ => h_.1)) (fun _ h_ => h_.1)))); (case side2 => exact (Kd.Q_reads' e9.out).2.1); rintro e w176 ⟨rfl, hb⟩; refine ⟨_, rfl, ?_⟩; replace e9 := yaa (yak (by (with_reducible repeat (first | apply ybi | apply ybj | apply yay)); exact (ybg (ybg (yah (p := ⟨d8, 4, none⟩) (yah (p := ⟨d8, 3, none⟩) (yah (p := ⟨d8, 2, none⟩) (yah (p := ⟨d8, 1, none⟩) (yah (p := ⟨d8, 0, none⟩) (yah (p := ⟨d9, 2, none⟩) (yah (p := ⟨d9, 1, none⟩) (yah (p := ⟨d9, 0, none⟩) (yab (yab e9.out a5.out (by decide)) a7.out (by decide)) (fun _ hk => hk.1.2) (.int .i64 e3)) (fun _ hk => hk.1.2) (.int .i64 e4)) (fun _ hk => hk.1.2) (.slice E3 e0.length o5)) (fun _ hk => hk.2) (.int .i64 k5)) (fun _ hk => hk.2) (.int .i64 k8)) (fun _ hk => hk.2) (.int .i64 l4)) (fun _ hk => hk.2) (.int .i64 m0)) (fun _ hk => hk.2) (.int .i64 m2)) (fun _ h_ => h_.1)) (fun _ h_ => h_.1))) hb); replace a5 := yaa (yac (g := d9) (o := .cells #[.int .i64 e3, .int .i64 e4, .slice E3 e0.length o5] 25 (0, 0)) (by (repeat refine oneB ?_); refine yao ?_ f8.out _; (repeat refine oneB ?_); refine yao ?_ f8.out _; (repeat refine oneB ?_); refine yao ?_ f8.out _; (repeat refine oneB ?_); refine yao ?_ f8.out _; (repeat refine oneB ?_); refine yao ?_ f8.out _; (repeat refine oneB ?_); refine yam (cs := #[.int .i64 e3, .int .i64 e4, .slice none 0 0]) ?_ 2 _ rfl; refine yam (cs := #[.int .i64 e3, .int .i64 0, .slice none 0 0]) ?_ 1 _ rfl; refine yam (cs := #[.int .i64 0, .int .i64 0, .slice none 0 0]) ?_ 0 _ rfl; exact upB a5.out) hb); replace a7 := yaa (yac (g := d8) (o := .cells #[.int .i64 k5, .int .i64 k8, .int .i64 l4, .int .i64 m0, .int .i64 m2] 27 (0, 0)) (by (repeat refine oneB ?_); refine yam (cs := #[.int .i64 k5, .int .i64 k8, .int .i64 l4, .int .i64 m0, .int .i64 0]) ?_ 4 _ rfl; refine yam (cs := #[.int .i64 k5, .int .i64 k8, .int .i64 l4, .int .i64 0, .int .i64 0]) ?_ 3 _ rfl; refine yam (cs := #[.int .i64 k5, .int .i64 k8, .int .i64 0, .int .i64 0, .int .i64 0]) ?_ 2 _ rfl; refine yam (cs := #[.int .i64 k5, .int .i64 0, .int .i64 0, .int .i64 0, .int .i64 0]) ?_ 1 _ rfl; refine yam (cs := #[.int .i64 0, .int .i64 0, .int .i64 0, .int .i64 0, .int .i64 0]) ?_ 0 _ rfl; (repeat refine oneB ?_); refine yao ?_ h0.out _; (repeat refine oneB ?_); refine yao ?_ h0.out _; (repeat refine oneB ?_); refine yao ?_ h0.out _; exact upB a7.out) hb); replace HB := yaa (yan (by repeat (with_reducible first | exact HB.out | apply yaf | apply yad | apply yae | refine yai ?_ (Aside0.out ‹_›))) hb); (try clear hb); (try clear hb2); (try clear hk); (try clear hi); obtain ⟨U7, U8, U9⟩ := cc3_ a5.out; obtain ⟨V0, V1⟩ := cf2_ a5.out; have V2 := blk_frozen a5.out 2) | ((with_reducible refine gate_callee (f := 17) rfl ?_); refine gl_ (some 33) rfl Try.func17 #[.agg #[.int .i64 e3, .int .i64 e4, .slice E3 e0.length o5]] ?_; (with_reducible refine (impl_RasOk.calls kj2 e3 e4 _ _ e0 false _ ?side1 ?side2 bG.out).mono ?_); (case side1 => repeat (first | exact (Kd.Q_reads' e9.out).2.2 | (with_reducible refine Kd.C_alloc ?_ _) | (with_reducible refine Kd.C_drewN ?_ _) | (with_reducible refine Kd.C_drew ?_))); (case side2 => exact (Kd.Q_reads' e9.out).2.1); rintro e w178 ⟨rfl, hb⟩; refine ⟨_, rfl, ?_⟩; replace e9 := yaa (yak (upQ e9.out) hb); replace a5 := yaa (yac (upB a5.out) hb); replace a7 := yaa (yac (upB a7.out) hb); replace HB := yaa (yan (by repeat (with_reducible first | exact HB.out | apply yaf | apply yad | apply yae | refine yai ?_ (Aside0.out ‹_›))) hb); (try clear hb); (try clear hb2); (try clear hk); (try clear hi)) | (go_at_call 14; (with_reducible refine (laws_eaOk.calls  bH _ bI.out).mono ?_); rintro e w179 ⟨rfl, hb⟩; replace e9 := yaa (yak (upQ e9.out) hb); replace a5 := yaa (yac (upB a5.out) hb); replace a7 := yaa (yac (upB a7.out) hb); replace HB := yaa (yan (by repeat (with_reducible first | exact HB.out | apply yaf | apply yad | apply yae | refine yai ?_ (Aside0.out ‹_›))) hb); (try clear hb); (try clear hb2); (try clear hk); (try clear hi)))
      go_ret
      exact ⟨by first | rfl | (simp [*, errW_none, errW_some] <;> rfl), by repeat (with_reducible first | exact HB.out | apply yaf | apply yad | apply yae | refine yai ?_ (Aside0.out ‹_›))⟩

/-- THE ONE PURE STATEMENT of laws_FnOpSize: yours. -/
def laws_FnOpSize.Pure : Prop := ∀ (l0 : List Int) (l1 : List Int), l0.length ≤ maxLen → l0.length * 1 ≤ 140737488351232 → (∀ x ∈ l0, (Lit.int .u8 x).wf = true) → l1.length ≤ maxLen → l1.length * 1 ≤ 140737488351232 → (∀ x ∈ l1, (Lit.int .u8 x).wf = true) → ∃ k, laws_FnOpSize.f k l0 l1 = some true
theorem laws_FnOpSize.walk (P : laws_FnOpSize.Pure) (a0 : Option Addr) (len0 cap0 : Nat) (z0 : List Int) (a1 : Option Addr) (len1 cap1 : Nat) (z1 : List Int) (w : World) (w0 : (a0 = none ∧ len0 = 0 ∧ cap0 = 0 ∧ z0 = []) ∨ ∃ x, a0 = some x ∧ len0 ≤ cap0 ∧ cap0 ≤ maxLen ∧ z0.length = cap0 ∧ (∀ i, i < z0.length → w.cell? (x.add i) = some (.int .u8 (z0.getD i 0))) ∧ ∀ n ∈ z0, (Lit.int .u8 n).wf = true) (y0 : len0 * 1 ≤ 140737488351232) (w1 : (a1 = none ∧ len1 = 0 ∧ cap1 = 0 ∧ z1 = []) ∨ ∃ x, a1 = some x ∧ len1 ≤ cap1 ∧ cap1 ≤ maxLen ∧ z1.length = cap1 ∧ (∀ i, i < z1.length → w.cell? (x.add i) = some (.int .u8 (z1.getD i 0))) ∧ ∀ n ∈ z1, (Lit.int .u8 n).wf = true) (y1 : len1 * 1 ≤ 140737488351232) :
  Calls Try.prog 4 #[.slice a0 len0 cap0, .slice a1 len1 cap1] w fun e w' => e = .returned (.bool true) ∧ Below w.heap.size w w' := by
 obtain ⟨l0, rfl, hr0, hm0, hw0, hc0⟩ := ReadsInt.ofRowC w0; obtain ⟨l1, rfl, hr1, hm1, hw1, hc1⟩ := ReadsInt.ofRowC w1; obtain ⟨k, h⟩ := P l0 l1 hm0 y0 hw0 hm1 y1 hw1
 refine (laws_FnOpSize.calls k _ _ l0 _ _ l1 true w (Kd.C_of_reads (d := (0 : Int)) (h1 := fun _ => rfl) hr0) hc0 (Kd.C_of_reads (d := (0 : Int)) (h1 := fun _ => rfl) hr1) hc1 h rfl).mono ?_
 rintro e w' ⟨rfl, hd⟩
 exact ⟨rfl, hd⟩

end Go.Proofs.Ytoifpgkfpdeglaa.X

namespace Go.Proofs.Ytoifpgkfpdeglaa.X
open Go.RowKit Go.Proofs.YtoifpgkfpdeglaaW.PrintWords Go.Proofs.Ytoifpgkfpdeglaa.Pl
set_option linter.unusedSimpArgs false
set_option linter.unusedVariables false

theorem mk_succ (w h : Nat) (f : Nat → Nat → Pix) : mk w (h + 1) f = mk w h f ++ (List.range' 0 w).map fun x => f x h := by
  unfold mk
  rw [Nat.mul_add, Nat.mul_one, List.range_add, List.map_append, List.map_map, ← List.range_eq_range']
  congr 1
  apply List.map_congr_left
  intro x hx
  have hx' := List.mem_range.1 hx
  show f ((w * h + x) % w) ((w * h + x) / w) = f x h
  rw [Nat.mul_add_mod, Nat.mod_eq_of_lt hx', Nat.mul_add_div (by omega), Nat.div_eq_of_lt hx', Nat.add_zero]
theorem mk_zero (w : Nat) (f : Nat → Nat → Pix) : mk w 0 f = [] := by unfold mk; simp
theorem ev_rows {β : Type} (w h : Nat) (f : Nat → Nat → Pix) (g0 : Nat → Nat → List Pix → Option β) (g1 : Nat → Nat → Nat → List Pix → Option β) (R : β) (hw : w ≤ 6) (hh : h ≤ 6)
    (hstart : ∀ i s r, i < h → Ev (fun k => g1 k i 0 s) r → Ev (fun k => g0 k i s) r)
    (hin : ∀ i j s r, i < h → j < w → s.length ≤ 10000 → Ev (fun k => g1 k i (j + 1) (s ++ [f j i])) r → Ev (fun k => g1 k i j s) r)
    (hout : ∀ i s r, i < h → Ev (fun k => g0 k (i + 1) s) r → Ev (fun k => g1 k i w s) r)
    (hend : Ev (fun k => g0 k h (mk w h f)) R) : Ev (fun k => g0 k 0 []) R := by
  have inner : ∀ i, i < h → ∀ d j, j + d = w → ∀ (s : List Pix) r, s.length + d ≤ 10000 → Ev (fun k => g1 k i w (s ++ (List.range' j d).map fun x => f x i)) r → Ev (fun k => g1 k i j s) r := by
    intro i hi d
    induction d with
    | zero => intro j hj s r _ h; obtain rfl : j = w := by omega
              simpa using h
    | succ d ih =>
      intro j hj s r hs h
      refine hin i j s r hi (by omega) (by omega) (ih (j + 1) (by omega) _ r (by rw [List.length_append]; simp only [List.length_cons, List.length_nil]; omega) ?_)
      rw [List.range'_succ, List.map_cons] at h
      rw [List.append_assoc, List.singleton_append]
      exact h
  have outer : ∀ d i, i + d = h → Ev (fun k => g0 k i (mk w i f)) R := by
    intro d
    induction d with
    | zero => intro i hi; obtain rfl : i = h := by omega
              exact hend
    | succ d ih =>
      intro i hi
      have hm : w * i ≤ 6 * 6 := Nat.mul_le_mul hw (by omega)
      refine hstart i _ R (by omega) (inner i (by omega) w 0 (by omega) _ R (by rw [mk_length]; omega) (hout i _ R (by omega) ?_))
      rw [← mk_succ]
      exact ih (i + 1) (by omega)
  have := outer h 0 (by omega)
  rwa [mk_zero] at this
theorem ev_line {β : Type} (n : Nat) (F : Nat → Pix) (g : Nat → Nat → List Pix → Option β) (R : β) (hn : n ≤ 10000)
    (hstep : ∀ i s r, i < n → s.length = i → Ev (fun k => g k (i + 1) (s ++ [F i])) r → Ev (fun k => g k i s) r)
    (hend : Ev (fun k => g k n ((List.range n).map F)) R) : Ev (fun k => g k 0 []) R := by
  have outer : ∀ d i, i + d = n → Ev (fun k => g k i ((List.range i).map F)) R := by
    intro d
    induction d with
    | zero => intro i hi; obtain rfl : i = n := by omega
              exact hend
    | succ d ih =>
      intro i hi
      refine hstep i _ R (by omega) (by simp) ?_
      have := ih (i + 1) (by omega)
      rwa [List.range_succ, List.map_append] at this
  exact outer n 0 (by omega)

/-! ### Small numbers -/
theorem wadd {a b : Nat} (h : a + b ≤ 1000000) : wrap64 ((a : Int) + (b : Int)) = ((a + b : Nat) : Int) := by rw [← Int.natCast_add]; exact wrap_id (by omega) (by omega)
theorem wadd1 {a : Nat} (h : a ≤ 999999) : wrap64 ((a : Int) + 1) = ((a + 1 : Nat) : Int) := wadd (a := a) (b := 1) (by omega)
theorem wmul {a b : Nat} (h : a * b ≤ 1000000) : wrap64 ((a : Int) * (b : Int)) = ((a * b : Nat) : Int) := by
  rw [← Int.natCast_mul]; exact wrap_id (Int.le_trans (by decide) (Int.natCast_nonneg _)) (Int.le_trans (Int.ofNat_le.2 h) (by decide))
theorem wmul2 {b : Nat} (h : b ≤ 1000) : wrap64 (2 * (b : Int)) = ((2 * b : Nat) : Int) := wmul (a := 2) (b := b) (by omega)
theorem wsub {a b : Nat} (h : b ≤ a) (ha : a ≤ 1000000) : wrap64 ((a : Int) - (b : Int)) = ((a - b : Nat) : Int) := by rw [← Int.ofNat_sub h]; exact wrap_id (by omega) (by omega)
theorem wsub1 {a : Nat} (h : 1 ≤ a) (ha : a ≤ 1000000) : wrap64 ((a : Int) - 1) = ((a - 1 : Nat) : Int) := wsub (b := 1) h ha
theorem wdiv {a b : Nat} (ha : a ≤ 1000000) : wrap64 (Int.tdiv (a : Int) (b : Int)) = ((a / b : Nat) : Int) := by
  rw [show Int.tdiv (a : Int) (b : Int) = ((a / b : Nat) : Int) from rfl]
  have := Nat.div_le_self a b
  exact wrap_id (Int.le_trans (by decide) (Int.natCast_nonneg _)) (Int.le_trans (Int.ofNat_le.2 (Nat.le_trans this ha)) (by decide))
theorem place_le {x y wd hg : Nat} (hw : wd ≤ 6) (hh : hg ≤ 6) (hy : y < hg) (hx : x < wd) : y * wd ≤ 36 ∧ y * wd + x ≤ 100 := by
  have : y * wd ≤ 6 * 6 := Nat.mul_le_mul (by omega) hw
  omega
theorem at_place {l : List Pix} {wd hg x y : Nat} (hl : l.length = wd * hg) (hx : x < wd) (hy : y < hg) : (0 : Int) ≤ ((y * wd + x : Nat) : Int) ∧ ((y * wd + x : Nat) : Int) < (l.length : Int) := by
  have := place_lt hx hy hl
  omega
theorem rd_pix (l : List Pix) (wd x y : Nat) : (⟨(rd_T36 l ((y * wd + x : Nat) : Int)).f0, (rd_T36 l ((y * wd + x : Nat) : Int)).f1, (rd_T36 l ((y * wd + x : Nat) : Int)).f2, (rd_T36 l ((y * wd + x : Nat) : Int)).f3⟩ : Pix) = pix l wd x y := rfl

theorem spec_l6Crop_ev {wd hg : Nat} {l : List Pix} (hv : Valid wd hg l) (o : Op) (h0 : o.f0 = 1) (ho : OkO o) (hm : hasM o wd hg = true) :
    Ev (fun k => spec_l6Crop.f k wd hg l o.f0 o.f1 o.f2 o.f3 o.f4) ((wideM o wd hg : Int), (highM o wd hg : Int), picM o wd hg l) := by
  obtain ⟨hw, hh, hl, -⟩ := hv
  have hbd : (0 ≤ o.f1 ∧ o.f1 ≤ 5) ∧ (0 ≤ o.f2 ∧ o.f2 ≤ 5) ∧ (1 ≤ o.f3 ∧ o.f3 ≤ 6) ∧ (1 ≤ o.f4 ∧ o.f4 ≤ 6) := by
    rcases ho with ⟨_, h⟩ | ⟨h, _⟩ | ⟨h, _⟩ | ⟨h, _⟩
    · exact h
    · omega
    · omega
    · omega
  have hc := hasM_crop hm h0
  obtain ⟨a0, a1, a2, a3, a4⟩ := o
  dsimp only at h0 hbd hc ⊢
  obtain ⟨A, rfl⟩ : ∃ n : Nat, a1 = n := ⟨a1.toNat, by omega⟩
  obtain ⟨B, rfl⟩ : ∃ n : Nat, a2 = n := ⟨a2.toNat, by omega⟩
  obtain ⟨C, rfl⟩ : ∃ n : Nat, a3 = n := ⟨a3.toNat, by omega⟩
  obtain ⟨D, rfl⟩ : ∃ n : Nat, a4 = n := ⟨a4.toNat, by omega⟩
  subst h0
  have e : picM ⟨1, A, B, C, D⟩ wd hg l = mk C D fun x y => pix l wd (A + x) (B + y) := rfl
  rw [e]
  refine ev_rows C D (fun x y => pix l wd (A + x) (B + y)) (fun k i s => spec_l6Crop.l0 k i wd hg l 1 A B C D C D s) (fun k i j s => spec_l6Crop.l1 k i j wd hg l 1 A B C D C D s) _ (by omega) (by omega) ?_ ?_ ?_ ?_
  · intro i s r hi h
    refine Ev.step (fun k => ?_) h
    simp only [spec_l6Crop.l0]
    rw [if_pos (by omega)]
    rfl
  · intro i j s r hi hj hs h
    refine Ev.step (fun k => ?_) h
    have hp := place_le hw.2 hh.2 (show B + i < hg by omega) (show A + j < wd by omega)
    have ha := at_place hl (show A + j < wd by omega) (show B + i < hg by omega)
    simp only [spec_l6Crop.l1]
    rw [if_pos (by omega), wadd (a := B) (b := i) (by omega), wmul (by omega), wadd (b := A) (by omega), wadd (b := j) (by omega), Nat.add_assoc, if_pos ha.1, if_pos ha.2, if_pos (by omega), wadd1 (by omega), rd_pix]
  · intro i s r hi h
    refine Ev.step (fun k => ?_) h
    simp only [spec_l6Crop.l1]
    rw [if_neg (by omega), wadd1 (by omega)]
  · refine ev_succ ⟨0, fun k _ => ?_⟩
    simp only [spec_l6Crop.l0]
    rw [if_neg (by omega)]
    rfl
theorem spec_l6FlipX_ev {wd hg : Nat} {l : List Pix} (hv : Valid wd hg l) : Ev (fun k => spec_l6FlipX.f k wd hg l) ((wd : Int), (hg : Int), picM ⟨2, 0, 0, 0, 0⟩ wd hg l) := by
  obtain ⟨hw, hh, hl, -⟩ := hv
  rw [picM_flipX]
  refine ev_rows wd hg (fun x y => pix l wd (wd - 1 - x) y) (fun k i s => spec_l6FlipX.l0 k i wd hg l wd hg s) (fun k i j s => spec_l6FlipX.l1 k i ((wd : Int) - 1 - j) wd hg l wd hg s) _ (by omega) (by omega) ?_ ?_ ?_ ?_
  · intro i s r hi h
    refine Ev.step (fun k => ?_) h
    simp only [spec_l6FlipX.l0]
    rw [if_pos (by omega), wsub1 (by omega) (by omega)]
    congr 1
    omega
  · intro i j s r hi hj hs h
    refine Ev.step (fun k => ?_) h
    have hp := place_le hw.2 hh.2 hi (show wd - 1 - j < wd by omega)
    have ha := at_place hl (show wd - 1 - j < wd by omega) hi
    have e1 : (wd : Int) - 1 - (j : Int) = ((wd - 1 - j : Nat) : Int) := by omega
    have e2 : wrap64 (((wd - 1 - j : Nat) : Int) - 1) = (wd : Int) - 1 - ((j + 1 : Nat) : Int) := by rw [wrap_id (by omega) (by omega)]; omega
    simp only [spec_l6FlipX.l1]
    rw [if_pos (by omega), e1, wmul (by omega), wadd (by omega), if_pos ha.1, if_pos ha.2, if_pos (by omega), e2, rd_pix]
  · intro i s r hi h
    refine Ev.step (fun k => ?_) h
    simp only [spec_l6FlipX.l1]
    rw [if_neg (by omega), wadd1 (by omega)]
  · refine ev_succ ⟨0, fun k _ => ?_⟩
    simp only [spec_l6FlipX.l0]
    rw [if_neg (by omega)]
theorem spec_l6Turn_ev {wd hg : Nat} {l : List Pix} (hv : Valid wd hg l) : Ev (fun k => spec_l6Turn.f k wd hg l) ((hg : Int), (wd : Int), picM ⟨4, 0, 0, 0, 0⟩ wd hg l) := by
  obtain ⟨hw, hh, hl, -⟩ := hv
  rw [picM_turn]
  refine ev_rows hg wd (fun x y => pix l wd y (hg - 1 - x)) (fun k i s => spec_l6Turn.l0 k i wd hg l hg wd s) (fun k i j s => spec_l6Turn.l1 k i j wd hg l hg wd s) _ (by omega) (by omega) ?_ ?_ ?_ ?_
  · intro i s r hi h
    refine Ev.step (fun k => ?_) h
    simp only [spec_l6Turn.l0]
    rw [if_pos (by omega)]
    rfl
  · intro i j s r hi hj hs h
    refine Ev.step (fun k => ?_) h
    have hp := place_le hw.2 hh.2 (show hg - 1 - j < hg by omega) hi
    have ha := at_place hl hi (show hg - 1 - j < hg by omega)
    simp only [spec_l6Turn.l1]
    rw [if_pos (by omega), wsub1 (by omega) (by omega), wsub (by omega) (by omega), wmul (by omega), wadd (by omega), if_pos ha.1, if_pos ha.2, if_pos (by omega), wadd1 (by omega), rd_pix]
  · intro i s r hi h
    refine Ev.step (fun k => ?_) h
    simp only [spec_l6Turn.l1]
    rw [if_neg (by omega), wadd1 (by omega)]
  · refine ev_succ ⟨0, fun k _ => ?_⟩
    simp only [spec_l6Turn.l0]
    rw [if_neg (by omega)]
theorem spec_l6Size_ev {wd hg : Nat} {l : List Pix} (hv : Valid wd hg l) {a b : Nat} (ha : 1 ≤ a ∧ a ≤ 6) (hb : 1 ≤ b ∧ b ≤ 6) : Ev (fun k => spec_l6Size.f k wd hg l 7 a b 0 0) ((a : Int), (b : Int), picM ⟨7, a, b, 0, 0⟩ wd hg l) := by
  obtain ⟨hw, hh, hl, -⟩ := hv
  have e : picM ⟨7, a, b, 0, 0⟩ wd hg l = mk a b fun x y => pix l wd ((2 * x + 1) * wd / (2 * a)) ((2 * y + 1) * hg / (2 * b)) := rfl
  rw [e]
  refine ev_rows a b (fun x y => pix l wd ((2 * x + 1) * wd / (2 * a)) ((2 * y + 1) * hg / (2 * b))) (fun k i s => spec_l6Size.l0 k i wd hg l 7 a b 0 0 a b s) (fun k i j s => spec_l6Size.l1 k i j wd hg l 7 a b 0 0 a b s) _ (by omega) (by omega) ?_ ?_ ?_ ?_
  · intro i s r hi h
    refine Ev.step (fun k => ?_) h
    simp only [spec_l6Size.l0]
    rw [if_pos (by omega)]
    rfl
  · intro i j s r hi hj hs h
    refine Ev.step (fun k => ?_) h
    have hx := scale_lt (n := a) hj (show 0 < wd by omega)
    have hy := scale_lt (n := b) hi (show 0 < hg by omega)
    have hp := place_le hw.2 hh.2 hy hx
    have hat := at_place hl hx hy
    have q1 : (2 * i + 1) * hg ≤ 13 * 6 := Nat.mul_le_mul (by omega) hh.2
    have q2 : (2 * j + 1) * wd ≤ 13 * 6 := Nat.mul_le_mul (by omega) hw.2
    simp only [spec_l6Size.l1]
    rw [if_pos (by omega), wmul2 (b := b) (by omega), if_neg (by omega), wmul2 (b := a) (by omega), if_neg (by omega), wmul2 (b := i) (by omega), wadd1 (by omega), wmul (by omega), wdiv (by omega), wmul2 (b := j) (by omega), wadd1 (by omega), wmul (a := 2 * j + 1) (b := wd) (by omega), wdiv (by omega), wmul (by omega), wadd (by omega), if_pos hat.1, if_pos hat.2, if_pos (by omega), wadd1 (by omega), rd_pix]
  · intro i s r hi h
    refine Ev.step (fun k => ?_) h
    simp only [spec_l6Size.l1]
    rw [if_neg (by omega), wadd1 (by omega)]
  · refine ev_succ ⟨0, fun k _ => ?_⟩
    simp only [spec_l6Size.l0]
    rw [if_neg (by omega)]
end Go.Proofs.Ytoifpgkfpdeglaa.X

namespace Go.Proofs.Ytoifpgkfpdeglaa.X
open Go.RowKit Go.Proofs.YtoifpgkfpdeglaaW.PrintWords Go.Proofs.Ytoifpgkfpdeglaa.Pl
set_option linter.unusedSimpArgs false
set_option linter.unusedVariables false

theorem ev_blocks {β : Type} (w h : Nat) (f : Nat → Nat → Pix) (g : Nat → Nat → List Pix → Option β) (R : β) (hw : w ≤ 6) (hh : h ≤ 6)
    (hstep : ∀ i s r, i < h → s.length ≤ 10000 → Ev (fun k => g k (i + 1) (s ++ (List.range' 0 w).map fun x => f x i)) r → Ev (fun k => g k i s) r)
    (hend : Ev (fun k => g k h (mk w h f)) R) : Ev (fun k => g k 0 []) R := by
  have outer : ∀ d i, i + d = h → Ev (fun k => g k i (mk w i f)) R := by
    intro d
    induction d with
    | zero => intro i hi; obtain rfl : i = h := by omega
              exact hend
    | succ d ih =>
      intro i hi
      have hm : w * i ≤ 6 * 6 := Nat.mul_le_mul hw (by omega)
      refine hstep i _ R (by omega) (by rw [mk_length]; omega) ?_
      rw [← mk_succ]
      exact ih (i + 1) (by omega)
  have := outer h 0 (by omega)
  rwa [mk_zero] at this
theorem row_eq {wd hg y : Nat} {l : List Pix} (hl : l.length = wd * hg) (hy : y < hg) : (l.take ((y + 1) * wd)).drop (y * wd) = (List.range' 0 wd).map fun x => pix l wd x y := by
  have h1 : (y + 1) * wd ≤ hg * wd := Nat.mul_le_mul_right _ (by omega)
  have h2 : (y + 1) * wd = y * wd + wd := by rw [Nat.add_mul, Nat.one_mul]
  have h3 : hg * wd = l.length := by rw [hl, Nat.mul_comm]
  rw [← List.range_eq_range']
  apply List.ext_getElem?
  intro i
  rw [List.getElem?_drop, List.getElem?_take, List.getElem?_map]
  by_cases hi : i < wd
  · rw [if_pos (by omega), List.getElem?_range hi, List.getElem?_eq_getElem (by omega)]
    unfold pix
    rw [Option.map_some, List.getD_eq_getElem?_getD, List.getElem?_eq_getElem (by omega)]
    rfl
  · rw [if_neg (by omega), List.getElem?_eq_none (by simp; omega)]
    rfl
theorem spec_l5Flip_ev {wd hg : Nat} {l : List Pix} (hv : Valid wd hg l) : Ev (fun k => spec_l5Flip.f k wd hg l) ((wd : Int), (hg : Int), picM ⟨3, 0, 0, 0, 0⟩ wd hg l) := by
  obtain ⟨hw, hh, hl, -⟩ := hv
  rw [picM_flipY]
  have := ev_blocks wd hg (fun x y => pix l wd x (hg - 1 - y)) (fun k i s => spec_l5Flip.l0 k ((hg : Int) - 1 - i) wd hg l wd hg s) ((wd : Int), (hg : Int), mk wd hg fun x y => pix l wd x (hg - 1 - y)) (by omega) (by omega) ?_ ?_
  · refine Ev.congr (fun k => ?_) this
    show spec_l5Flip.f k wd hg l = _
    unfold spec_l5Flip.f
    rw [wrap_id (x := (hg : Int) - 1) (by omega) (by omega)]
    congr 1
    omega
  · intro i s r hi hs h
    refine Ev.step (fun k => ?_) h
    have e1 : (hg : Int) - 1 - (i : Int) = ((hg - 1 - i : Nat) : Int) := by omega
    have e2 : wrap64 (((hg - 1 - i : Nat) : Int) - 1) = (hg : Int) - 1 - ((i + 1 : Nat) : Int) := by rw [wrap_id (by omega) (by omega)]; omega
    have q1 : (hg - 1 - i) * wd ≤ 6 * 6 := Nat.mul_le_mul (by omega) hw.2
    have q2 : (hg - 1 - i + 1) * wd ≤ 7 * 6 := Nat.mul_le_mul (by omega) hw.2
    have h1 : (hg - 1 - i + 1) * wd ≤ hg * wd := Nat.mul_le_mul_right _ (by omega)
    have h2 : (hg - 1 - i + 1) * wd = (hg - 1 - i) * wd + wd := by rw [Nat.add_mul, Nat.one_mul]
    have h3 : hg * wd = l.length := by rw [hl, Nat.mul_comm]
    have hr := row_eq (y := hg - 1 - i) hl (by omega)
    have hlen : ((l.take ((hg - 1 - i + 1) * wd)).drop ((hg - 1 - i) * wd)).length ≤ 100 := by rw [hr]; simp; omega
    simp only [spec_l5Flip.l0]
    rw [if_pos (by omega), e1, wmul (by omega), wadd1 (by omega), wmul (by omega), if_pos (by omega), if_pos (by omega), if_pos (by omega), Option.bind_some, Int.toNat_natCast, Int.toNat_natCast, if_pos (by omega), e2, hr]
  · refine ev_succ ⟨0, fun k _ => ?_⟩
    simp only [spec_l5Flip.l0]
    rw [if_neg (by omega)]

/-! ### Colour by colour -/
theorem mnmx (a b : Int) : mn a b = (if b < a then b else a) ∧ mx a b = (if a < b then b else a) := ⟨rfl, rfl⟩
theorem mean_inner (l : List Pix) {wd hg x y Y : Nat} (hl : l.length = wd * hg) (hw : wd ≤ 6) (hh : hg ≤ 6) (hx : x < wd) (hY : Y < hg) (r : Int × Int × Int × Int) : ∀ d X C (s : Pix), X + d = nearLo x + nearMany x wd → C + d ≤ 1000 →
    Ev (fun k => spec_l6Mean.l0 k x y ((C + d : Nat) : Int) ((Y + 1 : Nat) : Int) wd hg l (rowSum l wd Y X d s).f0 (rowSum l wd Y X d s).f1 (rowSum l wd Y X d s).f2 (rowSum l wd Y X d s).f3) r →
    Ev (fun k => spec_l6Mean.l1 k x y C Y X wd hg l s.f0 s.f1 s.f2 s.f3) r := by
  have hn := nearMany_pos hx
  have hmin : mn (wrap64 ((wd : Int) - 1)) (wrap64 ((x : Int) + 1)) = ((nearLo x + nearMany x wd : Nat) : Int) - 1 := by
    rw [wrap_id (x := (wd : Int) - 1) (by omega) (by omega), wrap_id (x := (x : Int) + 1) (by omega) (by omega), (mnmx _ _).1, hn.2.1]
    split <;> omega
  intro d
  induction d with
  | zero =>
    intro X C s hX hC h
    refine Ev.step (fun k => ?_) h
    simp only [spec_l6Mean.l1]
    rw [hmin, if_neg (by omega), wadd1 (by omega)]
    rfl
  | succ d ih =>
    intro X C s hX hC h
    have hXw : X < wd := near_lt hx (by omega)
    have hp := place_le hw hh hY hXw
    have ha := at_place hl hXw hY
    have := ih (X + 1) (C + 1) (addP s (pix l wd X Y)) (by omega) (by omega) (by rw [show C + 1 + d = C + (d + 1) by omega]; exact h)
    refine Ev.step (fun k => ?_) this
    simp only [spec_l6Mean.l1]
    rw [hmin, if_pos (by omega), wmul (by omega), wadd (by omega), if_pos ha.1, if_pos ha.2, wadd1 (by omega), wadd1 (by omega)]
    rfl
theorem mean_outer (l : List Pix) {wd hg x y : Nat} (hl : l.length = wd * hg) (hw : wd ≤ 6) (hh : hg ≤ 6) (hx : x < wd) (hy : y < hg) : ∀ d Y C (s : Pix), Y + d = nearLo y + nearMany y hg → C + d * nearMany x wd = nearMany y hg * nearMany x wd →
    Ev (fun k => spec_l6Mean.l0 k x y C Y wd hg l s.f0 s.f1 s.f2 s.f3) ((meanP (boxSum l wd (nearLo x) (nearMany x wd) Y d s) (nearMany y hg * nearMany x wd)).f0, (meanP (boxSum l wd (nearLo x) (nearMany x wd) Y d s) (nearMany y hg * nearMany x wd)).f1, (meanP (boxSum l wd (nearLo x) (nearMany x wd) Y d s) (nearMany y hg * nearMany x wd)).f2, (meanP (boxSum l wd (nearLo x) (nearMany x wd) Y d s) (nearMany y hg * nearMany x wd)).f3) := by
  have hn := nearMany_pos hy
  have hnx := nearMany_pos hx
  have hmb := many_bd hx hy
  have hmin : mn (wrap64 ((hg : Int) - 1)) (wrap64 ((y : Int) + 1)) = ((nearLo y + nearMany y hg : Nat) : Int) - 1 := by
    rw [wrap_id (x := (hg : Int) - 1) (by omega) (by omega), wrap_id (x := (y : Int) + 1) (by omega) (by omega), (mnmx _ _).1, hn.2.1]
    split <;> omega
  have hmax : mx 0 (wrap64 ((x : Int) - 1)) = ((nearLo x : Nat) : Int) := by
    rw [wrap_id (x := (x : Int) - 1) (by omega) (by omega), (mnmx _ _).2]
    unfold nearLo
    split <;> omega
  intro d
  induction d with
  | zero =>
    intro Y C s hY hC
    rw [Nat.zero_mul, Nat.add_zero] at hC
    refine ev_succ ⟨0, fun k _ => ?_⟩
    simp only [spec_l6Mean.l0]
    rw [hmin, if_neg (by omega), if_neg (by omega), hC]
    rfl
  | succ d ih =>
    intro Y C s hY hC
    have hC' : C + nearMany x wd + d * nearMany x wd = nearMany y hg * nearMany x wd := by rw [Nat.add_mul, Nat.one_mul] at hC; omega
    have := mean_inner l hl hw hh hx (show Y < hg from near_lt hy (by omega)) _ (nearMany x wd) (nearLo x) C s rfl (by omega) (ih (Y + 1) (C + nearMany x wd) (rowSum l wd Y (nearLo x) (nearMany x wd) s) (by omega) hC')
    refine Ev.step (fun k => ?_) this
    simp only [spec_l6Mean.l0]
    rw [hmin, hmax, if_pos (by omega)]
theorem spec_l6Mean_ev (l : List Pix) {wd hg x y : Nat} (hl : l.length = wd * hg) (hw : wd ≤ 6) (hh : hg ≤ 6) (hx : x < wd) (hy : y < hg) :
    Ev (fun k => spec_l6Mean.f k wd hg l x y) ((blurP l wd hg x y).f0, (blurP l wd hg x y).f1, (blurP l wd hg x y).f2, (blurP l wd hg x y).f3) := by
  have h := mean_outer l hl hw hh hx hy (nearMany y hg) (nearLo y) 0 z36 rfl (by omega)
  have hmax : mx 0 (wrap64 ((y : Int) - 1)) = ((nearLo y : Nat) : Int) := by
    rw [wrap_id (x := (y : Int) - 1) (by omega) (by omega), (mnmx _ _).2]
    unfold nearLo
    split <;> omega
  refine Ev.congr (fun k => ?_) h
  show spec_l6Mean.f k wd hg l x y = _
  unfold spec_l6Mean.f
  rw [hmax]
  rfl
theorem each_ev {wd hg : Nat} {l : List Pix} (hv : Valid wd hg l) (o0 o1 o2 o3 o4 : Int) (F : Nat → Nat → Pix)
    (hstep : ∀ i (s : List Pix) r, i < l.length → s.length = i → Ev (fun k => spec_l6Each.l0 k ((i + 1 : Nat) : Int) wd hg l o0 o1 o2 o3 o4 wd hg (s ++ [F (i % wd) (i / wd)])) r → Ev (fun k => spec_l6Each.l0 k (i : Int) wd hg l o0 o1 o2 o3 o4 wd hg s) r) :
    Ev (fun k => spec_l6Each.f k wd hg l o0 o1 o2 o3 o4) ((wd : Int), (hg : Int), mk wd hg F) := by
  obtain ⟨hw, hh, hl, -⟩ := hv
  have hle : wd * hg ≤ 6 * 6 := Nat.mul_le_mul hw.2 hh.2
  have := ev_line l.length (fun i => F (i % wd) (i / wd)) (fun k i s => spec_l6Each.l0 k i wd hg l o0 o1 o2 o3 o4 wd hg s) ((wd : Int), (hg : Int), mk wd hg F) (by omega) hstep ?_
  · exact this
  · refine ev_succ ⟨0, fun k _ => ?_⟩
    simp only [spec_l6Each.l0]
    rw [if_neg (by omega), hl]
    rfl
theorem rd_at {l : List Pix} {wd i : Nat} : rd_T36 l (i : Int) = pix l wd (i % wd) (i / wd) := by
  unfold pix
  rw [show i / wd * wd + i % wd = i by rw [Nat.mul_comm]; exact Nat.div_add_mod i wd]
  rfl
theorem spec_gray_ev {wd hg : Nat} {l : List Pix} (hv : Valid wd hg l) (a b c d : Int) : Ev (fun k => spec_l6Each.f k wd hg l 5 a b c d) ((wd : Int), (hg : Int), eachM grayP wd hg l) := by
  refine each_ev hv 5 a b c d (fun x y => grayP (pix l wd x y)) ?_
  have hle : wd * hg ≤ 6 * 6 := Nat.mul_le_mul hv.1.2 hv.2.1.2
  have hl := hv.2.2.1
  intro i s r hi hs h
  refine Ev.step (fun k => ?_) h
  rw [spec_l6Each.l0, if_pos (by omega), if_pos rfl, if_pos (by omega), rd_at (wd := wd)]
  show (if s.length < 4398046511104 then _ else none) = _
  rw [if_pos (by omega), wadd1 (by omega)]
  rfl
theorem spec_flat_ev {wd hg : Nat} {l : List Pix} (hv : Valid wd hg l) (a b c d : Int) : Ev (fun k => spec_l6Each.f k wd hg l 8 a b c d) ((wd : Int), (hg : Int), eachM (flatP a b c) wd hg l) := by
  refine each_ev hv 8 a b c d (fun x y => flatP a b c (pix l wd x y)) ?_
  have hle : wd * hg ≤ 6 * 6 := Nat.mul_le_mul hv.1.2 hv.2.1.2
  have hl := hv.2.2.1
  intro i s r hi hs h
  refine Ev.step (fun k => ?_) h
  rw [spec_l6Each.l0, if_pos (by omega), if_neg (by decide), if_neg (by decide), if_pos (by omega), rd_at (wd := wd)]
  show (if s.length < 4398046511104 then _ else none) = _
  rw [if_pos (by omega), wadd1 (by omega)]
  rfl
theorem spec_blur_ev {wd hg : Nat} {l : List Pix} (hv : Valid wd hg l) (a b c d : Int) : Ev (fun k => spec_l6Each.f k wd hg l 6 a b c d) ((wd : Int), (hg : Int), mk wd hg (blurP l wd hg)) := by
  refine each_ev hv 6 a b c d (blurP l wd hg) ?_
  have hle : wd * hg ≤ 6 * 6 := Nat.mul_le_mul hv.1.2 hv.2.1.2
  have hl := hv.2.2.1
  intro i s r hi hs h
  have hmd := mod_div_lt (show i < wd * hg by omega)
  obtain ⟨K1, h1⟩ := spec_l6Mean_ev l hl hv.1.2 hv.2.1.2 hmd.1 hmd.2
  obtain ⟨K2, h2⟩ := h
  refine ⟨K1 + K2 + 1, fun n hn => ?_⟩
  obtain ⟨m, rfl⟩ : ∃ m, n = m + 1 := ⟨n - 1, by omega⟩
  have e1 := h1 m (by omega)
  have e2 := h2 m (by omega)
  dsimp only at e1 e2 ⊢
  have t1 : Int.tmod (i : Int) (wd : Int) = ((i % wd : Nat) : Int) := rfl
  rw [spec_l6Each.l0, if_pos (by omega), if_neg (by decide), if_pos rfl, if_neg (by have := hv.1.1; omega), t1, wdiv (by omega), e1]
  show (if s.length < 4398046511104 then _ else none) = _
  rw [if_pos (by omega), wadd1 (by omega)]
  exact e2
theorem spec_l6Do_ev {wd hg : Nat} {l : List Pix} (hv : Valid wd hg l) {o : Op} (ho : OkO o) :
    Ev (fun k => spec_l6Do.f k wd hg l o.f0 o.f1 o.f2 o.f3 o.f4) (if hasM o wd hg then ((wideM o wd hg : Int), (highM o wd hg : Int), picM o wd hg l, true) else (0, 0, [], false)) := by
  have hw := hv.1
  have hh := hv.2.1
  have hok := ho
  rcases ho with ⟨h0, b1, b2, b3, b4⟩ | ⟨h0, z1, z2, z3, z4⟩ | ⟨h0, b1, b2, z3, z4⟩ | ⟨h0, b1, b2, b3, z4⟩
  · have e1 : wrap64 (o.f1 + o.f3) = o.f1 + o.f3 := wrap_id (by omega) (by omega)
    have e2 : wrap64 (o.f2 + o.f4) = o.f2 + o.f4 := wrap_id (by omega) (by omega)
    by_cases hm : hasM o wd hg = true
    · have hc := hasM_crop hm h0
      obtain ⟨K, h⟩ := spec_l6Crop_ev hv o h0 hok hm
      refine ⟨K + 1, fun n hn => ?_⟩
      obtain ⟨m, rfl⟩ : ∃ m, n = m + 1 := ⟨n - 1, by omega⟩
      have := h m (by omega)
      dsimp only at this ⊢
      unfold spec_l6Do.f
      rw [if_pos h0, e1, e2, if_neg (by omega), if_pos hm]
      simp only [spec_l6Do.j0]
      rw [if_neg (by simp; omega), this]
      rfl
    · rw [if_neg hm]
      have hm' : ¬ (o.f1 + o.f3 ≤ wd ∧ o.f2 + o.f4 ≤ hg) := by
        intro hc
        apply hm
        unfold hasM
        rw [if_pos h0]
        simp [hc]
      refine ev_succ ⟨0, fun k _ => ?_⟩
      unfold spec_l6Do.f
      dsimp only
      rw [if_pos h0, e1, e2]
      by_cases hx : o.f1 + o.f3 > (wd : Int)
      · rw [if_pos hx]
        simp only [spec_l6Do.j0, if_true]
      · rw [if_neg hx]
        simp only [spec_l6Do.j0]
        rw [if_pos (by simp; omega)]
  · have hm : hasM o wd hg = true := by unfold hasM; rw [if_neg (by omega)]
    obtain ⟨a0, a1, a2, a3, a4⟩ := o
    dsimp only at h0 z1 z2 z3 z4 ⊢
    subst z1 z2 z3 z4
    rw [if_pos hm]
    have : a0 = 2 ∨ a0 = 3 ∨ a0 = 4 ∨ a0 = 5 ∨ a0 = 6 := by omega
    rcases this with rfl | rfl | rfl | rfl | rfl
    · obtain ⟨K, h⟩ := spec_l6FlipX_ev hv
      exact ⟨K, fun n hn => by have := h n hn; dsimp only at this ⊢; unfold spec_l6Do.f; rw [if_neg (by decide), if_pos rfl, this]; rfl⟩
    · obtain ⟨K, h⟩ := spec_l5Flip_ev hv
      exact ⟨K, fun n hn => by have := h n hn; dsimp only at this ⊢; unfold spec_l6Do.f; rw [if_neg (by decide), if_neg (by decide), if_pos rfl, this]; rfl⟩
    · obtain ⟨K, h⟩ := spec_l6Turn_ev hv
      exact ⟨K, fun n hn => by have := h n hn; dsimp only at this ⊢; unfold spec_l6Do.f; rw [if_neg (by decide), if_neg (by decide), if_neg (by decide), if_pos rfl, this]; rfl⟩
    · obtain ⟨K, h⟩ := spec_gray_ev hv 0 0 0 0
      exact ⟨K, fun n hn => by have := h n hn; dsimp only at this ⊢; unfold spec_l6Do.f; rw [if_neg (by decide), if_neg (by decide), if_neg (by decide), if_neg (by decide), if_neg (by decide), this]; rfl⟩
    · obtain ⟨K, h⟩ := spec_blur_ev hv 0 0 0 0
      exact ⟨K, fun n hn => by have := h n hn; dsimp only at this ⊢; unfold spec_l6Do.f; rw [if_neg (by decide), if_neg (by decide), if_neg (by decide), if_neg (by decide), if_neg (by decide), this]; rfl⟩
  · have hm : hasM o wd hg = true := by unfold hasM; rw [if_neg (by omega)]
    obtain ⟨a0, a1, a2, a3, a4⟩ := o
    dsimp only at h0 b1 b2 z3 z4 ⊢
    obtain ⟨A, rfl⟩ : ∃ n : Nat, a1 = n := ⟨a1.toNat, by omega⟩
    obtain ⟨B, rfl⟩ : ∃ n : Nat, a2 = n := ⟨a2.toNat, by omega⟩
    subst h0 z3 z4
    rw [if_pos hm]
    obtain ⟨K, h⟩ := spec_l6Size_ev hv (a := A) (b := B) (by omega) (by omega)
    exact ⟨K, fun n hn => by have := h n hn; dsimp only at this ⊢; unfold spec_l6Do.f; rw [if_neg (by decide), if_neg (by decide), if_neg (by decide), if_neg (by decide), if_pos rfl, this]; rfl⟩
  · have hm : hasM o wd hg = true := by unfold hasM; rw [if_neg (by omega)]
    obtain ⟨a0, a1, a2, a3, a4⟩ := o
    dsimp only at h0 b1 b2 b3 z4 ⊢
    subst h0 z4
    rw [if_pos hm]
    obtain ⟨K, h⟩ := spec_flat_ev hv a1 a2 a3 0
    exact ⟨K, fun n hn => by have := h n hn; dsimp only at this ⊢; unfold spec_l6Do.f; rw [if_neg (by decide), if_neg (by decide), if_neg (by decide), if_neg (by decide), if_neg (by decide), this]; rfl⟩
theorem spec_OpDo_ev (a b : Int) (l : List Pix) (o : Op) : Ev (fun k => spec_OpDo.f k a b l o.f0 o.f1 o.f2 o.f3 o.f4) (doI a b l o) := by
  obtain ⟨K1, h1⟩ := spec_RasOk_ev a b l
  have h2 := spec_OpOk_some o.f0 o.f1 o.f2 o.f3 o.f4
  cases hr : rasOkB a b l with
  | false =>
    refine ⟨K1, fun n hn => ?_⟩
    have := h1 n hn
    dsimp only at this ⊢
    unfold spec_OpDo.f doI
    rw [this, hr]
    rfl
  | true =>
    cases ho : okB o with
    | false =>
      refine ⟨K1, fun n hn => ?_⟩
      have := h1 n hn
      dsimp only at this ⊢
      unfold spec_OpDo.f doI
      rw [this, hr, h2, show opOkB o.f0 o.f1 o.f2 o.f3 o.f4 = false from ho, ho]
      rfl
    | true =>
      obtain ⟨wd, hg, rfl, rfl, hv⟩ := (rasOkB_iff a b l).1 hr
      obtain ⟨K2, h3⟩ := spec_l6Do_ev hv ((okB_iff o).1 ho)
      refine ⟨K1 + K2, fun n hn => ?_⟩
      have e1 := h1 n (by omega)
      have e3 := h3 n (by omega)
      dsimp only at e1 e3 ⊢
      unfold spec_OpDo.f doI
      rw [e1, hr, h2, show opOkB o.f0 o.f1 o.f2 o.f3 o.f4 = true from ho, ho, Int.toNat_natCast, Int.toNat_natCast]
      simp only [Option.bind_some, if_true, e3, Bool.true_and]
end Go.Proofs.Ytoifpgkfpdeglaa.X

namespace Go.Proofs.Ytoifpgkfpdeglaa.X
open Go.RowKit Go.Proofs.YtoifpgkfpdeglaaW.PrintWords Go.Proofs.Ytoifpgkfpdeglaa.Pl
set_option linter.unusedSimpArgs false

theorem bits_xor_nonneg (a b : Int) (ha : 0 ≤ a) (ha' : a < 4611686018427387904) (hb : 0 ≤ b) (hb' : b < 4611686018427387904) : 0 ≤ Go.bits .xor .i64 a b ∧ Go.bits .xor .i64 a b < 4611686018427387904 := by
  obtain ⟨m, rfl⟩ := Int.eq_ofNat_of_zero_le ha
  obtain ⟨n, rfl⟩ := Int.eq_ofNat_of_zero_le hb
  have h1 : m < 2 ^ 62 := by omega
  have h2 : n < 2 ^ 62 := by omega
  have hx : m ^^^ n < 2 ^ 62 := Nat.xor_lt_two_pow h1 h2
  have hm : m % 2 ^ 64 = m := Nat.mod_eq_of_lt (by omega)
  have hn : n % 2 ^ 64 = n := Nat.mod_eq_of_lt (by omega)
  have e : Go.bits .xor .i64 (m : Int) (n : Int) = ((m ^^^ n : Nat) : Int) := by
    have hb : (BitVec.ofNat 64 m ^^^ BitVec.ofNat 64 n).toNat = m ^^^ n := by rw [BitVec.toNat_xor, BitVec.toNat_ofNat, BitVec.toNat_ofNat, hm, hn]
    simp only [Go.bits, IntKind.bits, BitVec.ofInt_natCast]
    rw [IntKind.wrap_i64]
    change (((BitVec.ofNat 64 m ^^^ BitVec.ofNat 64 n).toNat : Int) + 9223372036854775808) % 18446744073709551616 - 9223372036854775808 = _
    rw [hb]
    omega
  rw [e]
  omega

/-- The bytes of a code. -/
def Bytes (l : List Int) : Prop := l.length ≤ 2000 ∧ ∀ y ∈ l, 0 ≤ y ∧ y ≤ 255
theorem bytes_rd {l : List Int} (h : Bytes l) (i : Int) : 0 ≤ rd l i ∧ rd l i ≤ 255 := by
  unfold rd
  by_cases hi : i.toNat < l.length
  · exact h.2 _ (getD_mem l 0 i.toNat hi)
  · rw [List.getD_eq_getElem?_getD, List.getElem?_eq_none (by omega)]
    simp

theorem tmod_bd (a n : Int) (ha : 0 ≤ a) (hn : 0 < n) : 0 ≤ Int.tmod a n ∧ Int.tmod a n < n := by
  rw [Int.tmod_eq_emod_of_nonneg ha]
  exact ⟨Int.emod_nonneg _ (by omega), Int.emod_lt_of_pos _ hn⟩

theorem pick_ev (l : List Int) (hl : Bytes l) (p n : Int) (h0 : 0 ≤ p) (h1 : p ≤ 1000000000000) :
    ∃ r, Ev (fun k => spec_l20Rd_pick.f k l p n) (r, p + 1) ∧ 0 ≤ r ∧ (1 ≤ n → r < n) ∧ (n < 1 → r = 0) := by
  have w1 : wrap64 (p + 1) = p + 1 := wrap_id (by omega) (by omega)
  have w2 : wrap64 (p + 1 - 1) = p := by rw [show p + 1 - 1 = p by omega]; exact wrap_id (by omega) (by omega)
  by_cases hn : n < 1
  · refine ⟨0, ev_succ ⟨0, fun k _ => ?_⟩, by omega, fun h => absurd h (by omega), fun _ => rfl⟩
    simp [spec_l20Rd_pick.f, hn, spec_l20Rd_pick.j0, w1]
  have hne : ¬ (n = 0) := by omega
  by_cases hz : l.length = 0
  · refine ⟨0, ev_succ ⟨0, fun k _ => ?_⟩, by omega, fun h => by omega, fun h => absurd h hn⟩
    simp [spec_l20Rd_pick.f, hn, hz, spec_l20Rd_pick.j0, w1]
  have hz' : ¬ ((l.length : Int) = 0) := by omega
  have hzb : ((l.length : Int) == 0) = false := by simpa using hz
  by_cases hlt : p < (l.length : Int)
  · have hb := bytes_rd hl p
    have w3 : wrap64 (rd l p) = rd l p := wrap_id (by omega) (by omega)
    have ht := tmod_bd (rd l p) n hb.1 (by omega)
    refine ⟨Int.tmod (rd l p) n, ev_succ ⟨0, fun k _ => ?_⟩, ht.1, fun _ => ht.2, fun h => absurd h hn⟩
    simp only [spec_l20Rd_pick.f]
    rw [if_neg hn, hzb, w1]
    simp only [spec_l20Rd_pick.j0]
    rw [if_neg (by decide), w2, if_pos hlt, if_pos h0, if_neg hne, w3]
  · have L0 : (0 : Int) < (l.length : Int) := by omega
    have m1 := tmod_bd p (l.length : Int) h0 L0
    have w4 : wrap64 (p * 7) = p * 7 := wrap_id (by omega) (by omega)
    have w5 : wrap64 (p * 7 + 3) = p * 7 + 3 := wrap_id (by omega) (by omega)
    have m2 := tmod_bd (p * 7 + 3) (l.length : Int) (by omega) L0
    obtain ⟨i1, hi1⟩ : ∃ i, i = Int.tmod p (l.length : Int) := ⟨_, rfl⟩
    obtain ⟨i2, hi2⟩ : ∃ i, i = Int.tmod (p * 7 + 3) (l.length : Int) := ⟨_, rfl⟩
    have b1 := bytes_rd hl i1
    have b2 := bytes_rd hl i2
    obtain ⟨v1, hv1⟩ : ∃ v, v = rd l i1 := ⟨_, rfl⟩
    obtain ⟨v2, hv2⟩ : ∃ v, v = rd l i2 := ⟨_, rfl⟩
    have d1 : 0 ≤ Int.tdiv p (l.length : Int) ∧ Int.tdiv p (l.length : Int) ≤ p := by
      rw [Int.tdiv_eq_ediv_of_nonneg h0]
      exact ⟨Int.ediv_nonneg h0 (by omega), Int.ediv_le_self _ h0⟩
    obtain ⟨q, hq⟩ : ∃ q, q = Int.tdiv p (l.length : Int) := ⟨_, rfl⟩
    rw [← hi1] at m1
    rw [← hi2] at m2
    rw [← hv1] at b1
    rw [← hv2] at b2
    rw [← hq] at d1
    have x1 : wrap64 v1 = v1 := wrap_id (by omega) (by omega)
    have x2 : wrap64 v2 = v2 := wrap_id (by omega) (by omega)
    have x3 : wrap64 (v1 * 131) = v1 * 131 := wrap_id (by omega) (by omega)
    have x4 : wrap64 (v2 * 1117) = v2 * 1117 := wrap_id (by omega) (by omega)
    have x5 : wrap64 (v1 * 131 + v2 * 1117) = v1 * 131 + v2 * 1117 := wrap_id (by omega) (by omega)
    have x6 : wrap64 (p * 29) = p * 29 := wrap_id (by omega) (by omega)
    have x7 : wrap64 (v1 * 131 + v2 * 1117 + p * 29) = v1 * 131 + v2 * 1117 + p * 29 := wrap_id (by omega) (by omega)
    have x8 : wrap64 q = q := wrap_id (by omega) (by omega)
    have x9 : wrap64 (q * 53) = q * 53 := wrap_id (by omega) (by omega)
    have x10 : wrap64 (v1 * 131 + v2 * 1117 + p * 29 + q * 53) = v1 * 131 + v2 * 1117 + p * 29 + q * 53 := wrap_id (by omega) (by omega)
    obtain ⟨s, hs⟩ : ∃ s, s = v1 * 131 + v2 * 1117 + p * 29 + q * 53 := ⟨_, rfl⟩
    have hs0 : 0 ≤ s := by omega
    have hs1 : s ≤ 1000000000000000 := by omega
    have x11 : wrap64 (Int.tdiv s 64) = s / 64 := by
      rw [Int.tdiv_eq_ediv_of_nonneg hs0]
      exact wrap_id (by omega) (by omega)
    have hx := bits_xor_nonneg s (s / 64) hs0 (by omega) (by omega) (by omega)
    have ht := tmod_bd (Go.bits .xor .i64 s (s / 64)) n hx.1 (by omega)
    refine ⟨Int.tmod (Go.bits .xor .i64 s (s / 64)) n, ev_succ ⟨0, fun k _ => ?_⟩, ht.1, fun _ => ht.2, fun h => absurd h hn⟩
    simp only [spec_l20Rd_pick.f]
    rw [if_neg hn, hzb, w1]
    simp only [spec_l20Rd_pick.j0]
    rw [if_neg (by decide), w2, if_neg hlt, if_neg hz', w4, w5, ← hi1, ← hi2, if_pos m1.1, if_pos m1.2, if_pos m2.1, if_pos m2.2, if_neg hne, ← hv1, ← hv2, ← hq]
    simp only [x1, x2, x3, x4, x5, x6, x7, x8, x9, x10]
    rw [← hs, x11]

theorem odd_ev (l : List Int) (hl : Bytes l) (p n : Int) (h0 : 0 ≤ p) (h1 : p ≤ 1000000000000) (hn : n ≤ 1000000) :
    ∃ b q, Ev (fun k => spec_l20Rd_odd.f k l p n) (b, q) ∧ p ≤ q ∧ q ≤ p + 1 ∧ (n ≤ 0 → b = false) := by
  by_cases hn0 : n > 0
  · obtain ⟨r, ⟨K, hr⟩, _, _, _⟩ := pick_ev l hl p n h0 h1
    refine ⟨r == wrap64 (n - 1), p + 1, ⟨K, fun k hk => ?_⟩, by omega, by omega, fun h => absurd h (by omega)⟩
    have := hr k hk
    dsimp only at this
    simp [spec_l20Rd_odd.f, hn0, this]
  · refine ⟨false, p, ⟨0, fun k _ => ?_⟩, by omega, by omega, fun _ => rfl⟩
    simp [spec_l20Rd_odd.f, hn0]

theorem pick_tot {l : List Int} (hl : Bytes l) (p n : Int) (h0 : 0 ≤ p) (h1 : p ≤ 1000000000000) :
    Tot (fun k => spec_l20Rd_pick.f k l p n) (fun x => x.2 = p + 1 ∧ 0 ≤ x.1 ∧ (1 ≤ n → x.1 < n) ∧ (n < 1 → x.1 = 0)) := by
  obtain ⟨r, h, a, b, c⟩ := pick_ev l hl p n h0 h1
  exact ⟨_, h, rfl, a, b, c⟩
theorem odd_tot {l : List Int} (hl : Bytes l) (p n : Int) (h0 : 0 ≤ p) (h1 : p ≤ 1000000000000) (hn : n ≤ 1000000) :
    Tot (fun k => spec_l20Rd_odd.f k l p n) (fun x => p ≤ x.2 ∧ x.2 ≤ p + 1 ∧ (n ≤ 0 → x.1 = false)) := by
  obtain ⟨b, q, h, c⟩ := odd_ev l hl p n h0 h1 hn
  exact ⟨_, h, c⟩
theorem open_some (l : List Int) (hu : ∀ y ∈ l, 0 ≤ y ∧ y ≤ 255) : ∃ b, spec_l20Open.f l = some (b, 0) ∧ Bytes b := by
  unfold spec_l20Open.f
  by_cases h : (l.length : Int) > 2000
  · rw [if_pos h, if_pos (by omega)]
    refine ⟨l.take 2000, rfl, ?_, fun y hy => hu y (List.mem_of_mem_take hy)⟩
    rw [List.length_take]
    omega
  · rw [if_neg h]
    exact ⟨l, rfl, by omega, hu⟩
end Go.Proofs.Ytoifpgkfpdeglaa.X

namespace Go.Proofs.Ytoifpgkfpdeglaa.X
open Go.RowKit Go.Proofs.YtoifpgkfpdeglaaW.PrintWords Go.Proofs.Ytoifpgkfpdeglaa.Pl
set_option linter.unusedSimpArgs false
set_option linter.unusedVariables false

theorem l20Op_j0_tot {l : List Int} (hl : Bytes l) (n p o a b c d : Int) (h0 : 0 ≤ p) (h1 : p ≤ 900000000000) (hn : n ≤ 1000) :
    Tot (fun k => spec_l20Op.j0 k n l p o a b c d) (fun x => p ≤ x.2.2.2.2.2 ∧ x.2.2.2.2.2 ≤ p + 3) := by
  refine Tot.succ ?_
  simp only [spec_l20Op.j0]
  refine Tot.bind (odd_tot hl p n h0 (by omega) (by omega)) ?_
  rintro ⟨b1, p1⟩ ⟨e1, e2, -⟩
  dsimp only at e1 e2 ⊢
  refine Tot.ite ?_ ?_ <;> intro hb
  · refine Tot.bind (pick_tot hl p1 4 (by omega) (by omega)) ?_
    rintro ⟨r2, p2⟩ ⟨e3, e4, e5, -⟩
    dsimp only at e3 e4 e5 ⊢
    refine Tot.ite ?_ ?_ <;> intro h
    all_goals try (refine Tot.ite ?_ ?_ <;> intro h')
    all_goals try (refine Tot.ite ?_ ?_ <;> intro h'')
    all_goals
      refine Tot.some_bind ?_
      refine Tot.bind (pick_tot hl p2 2 (by omega) (by omega)) ?_
      rintro ⟨r3, p3⟩ ⟨e6, e7, e8, -⟩
      dsimp only at e6 e7 e8 ⊢
      refine Tot.pos e7 (Tot.pos ?_ (Tot.ret ?_))
      · simp only [List.length_cons, List.length_nil]; omega
      · dsimp only; omega
  · exact Tot.ret (by dsimp only; omega)

theorem l20Op_tot {l : List Int} (hl : Bytes l) (p n : Int) (h0 : 0 ≤ p) (h1 : p ≤ 800000000000) (hn : n ≤ 1000) :
    Tot (fun k => spec_l20Op.f k l p n) (fun x => p ≤ x.2.2.2.2.2 ∧ x.2.2.2.2.2 ≤ p + 8) := by
  simp only [spec_l20Op.f]
  refine Tot.bind (pick_tot hl p 8 h0 (by omega)) ?_
  rintro ⟨r0, p0⟩ ⟨e1, e2, e3, -⟩
  dsimp only at e1 e2 e3 ⊢
  refine Tot.ite ?_ ?_ <;> intro h
  · refine Tot.bind (pick_tot hl p0 3 (by omega) (by omega)) ?_
    rintro ⟨r4, p4⟩ ⟨e4, -, -, -⟩
    dsimp only at e4 ⊢
    refine Tot.bind (pick_tot hl p4 3 (by omega) (by omega)) ?_
    rintro ⟨r5, p5⟩ ⟨e5, -, -, -⟩
    dsimp only at e5 ⊢
    refine Tot.bind (pick_tot hl p5 4 (by omega) (by omega)) ?_
    rintro ⟨r6, p6⟩ ⟨e6, -, -, -⟩
    dsimp only at e6 ⊢
    refine Tot.bind (pick_tot hl p6 4 (by omega) (by omega)) ?_
    rintro ⟨r7, p7⟩ ⟨e7, -, -, -⟩
    dsimp only at e7 ⊢
    exact (l20Op_j0_tot hl n p7 _ _ _ _ _ (by omega) (by omega) hn).mono (fun x hx => by omega)
  refine Tot.ite ?_ ?_ <;> intro h
  · refine Tot.bind (pick_tot hl p0 6 (by omega) (by omega)) ?_
    rintro ⟨r4, p4⟩ ⟨e4, -, -, -⟩
    dsimp only at e4 ⊢
    refine Tot.bind (pick_tot hl p4 6 (by omega) (by omega)) ?_
    rintro ⟨r5, p5⟩ ⟨e5, -, -, -⟩
    dsimp only at e5 ⊢
    exact (l20Op_j0_tot hl n p5 _ _ _ _ _ (by omega) (by omega) hn).mono (fun x hx => by omega)
  refine Tot.ite ?_ ?_ <;> intro h
  · refine Tot.bind (pick_tot hl p0 256 (by omega) (by omega)) ?_
    rintro ⟨r4, p4⟩ ⟨e4, -, -, -⟩
    dsimp only at e4 ⊢
    refine Tot.bind (pick_tot hl p4 256 (by omega) (by omega)) ?_
    rintro ⟨r5, p5⟩ ⟨e5, -, -, -⟩
    dsimp only at e5 ⊢
    refine Tot.bind (pick_tot hl p5 256 (by omega) (by omega)) ?_
    rintro ⟨r6, p6⟩ ⟨e6, -, -, -⟩
    dsimp only at e6 ⊢
    exact (l20Op_j0_tot hl n p6 _ _ _ _ _ (by omega) (by omega) hn).mono (fun x hx => by omega)
  · exact (l20Op_j0_tot hl n p0 _ _ _ _ _ (by omega) (by omega) hn).mono (fun x hx => by omega)

end Go.Proofs.Ytoifpgkfpdeglaa.X

namespace Go.Proofs.Ytoifpgkfpdeglaa.X
open Go.RowKit Go.Proofs.YtoifpgkfpdeglaaW.PrintWords Go.Proofs.Ytoifpgkfpdeglaa.Pl
set_option linter.unusedSimpArgs false
set_option linter.unusedVariables false
theorem l20Pix_tot {l : List Int} (hl : Bytes l) (p : Int) (h0 : 0 ≤ p) (h1 : p ≤ 900000000000) : Tot (fun k => spec_l20Pix.f k l p) (fun x => p ≤ x.2.2.2.2 ∧ x.2.2.2.2 ≤ p + 10) := by
  simp only [spec_l20Pix.f]
  refine Tot.bind (pick_tot hl p 256 h0 (by omega)) ?_
  rintro ⟨r0, p0⟩ ⟨e0, -, -, -⟩
  dsimp only at e0 ⊢
  refine Tot.some_bind ?_
  refine Tot.bind (pick_tot hl p0 3 (by omega) (by omega)) ?_
  rintro ⟨r1, p1⟩ ⟨e1, a1, b1, -⟩
  dsimp only at e1 a1 b1 ⊢
  refine Tot.pos a1 (Tot.pos (by simp only [List.length_cons, List.length_nil]; omega) ?_)
  refine Tot.bind (pick_tot hl p1 256 (by omega) (by omega)) ?_
  rintro ⟨r2, p2⟩ ⟨e2, -, -, -⟩
  dsimp only at e2 ⊢
  refine Tot.some_bind ?_
  refine Tot.bind (pick_tot hl p2 2 (by omega) (by omega)) ?_
  rintro ⟨r3, p3⟩ ⟨e3, a3, b3, -⟩
  dsimp only at e3 a3 b3 ⊢
  refine Tot.pos a3 (Tot.pos (by simp only [List.length_cons, List.length_nil]; omega) ?_)
  refine Tot.bind (pick_tot hl p3 256 (by omega) (by omega)) ?_
  rintro ⟨r4, p4⟩ ⟨e4, -, -, -⟩
  dsimp only at e4 ⊢
  refine Tot.some_bind ?_
  refine Tot.bind (pick_tot hl p4 2 (by omega) (by omega)) ?_
  rintro ⟨r5, p5⟩ ⟨e5, a5, b5, -⟩
  dsimp only at e5 a5 b5 ⊢
  refine Tot.pos a5 (Tot.pos (by simp only [List.length_cons, List.length_nil]; omega) ?_)
  refine Tot.bind (pick_tot hl p5 256 (by omega) (by omega)) ?_
  rintro ⟨r6, p6⟩ ⟨e6, -, -, -⟩
  dsimp only at e6 ⊢
  refine Tot.some_bind ?_
  refine Tot.bind (pick_tot hl p6 4 (by omega) (by omega)) ?_
  rintro ⟨r7, p7⟩ ⟨e7, a7, b7, -⟩
  dsimp only at e7 a7 b7 ⊢
  refine Tot.pos a7 (Tot.pos (by simp only [List.length_cons, List.length_nil]; omega) (Tot.ret ?_))
  dsimp only
  omega
theorem l20Ras_l0_tot {l : List Int} (hl : Bytes l) (n w h : Int) (hw : 1 ≤ w ∧ w ≤ 6) (hh : 1 ≤ h ∧ h ≤ 6) (hn : n ≤ 1000) (P : Int) (hP : P ≤ 700000000000) : ∀ s : Int × Int × List Pix × Pix, (0 ≤ s.1 ∧ s.1 ≤ w * h ∧ s.2.2.1.length = s.1.toNat ∧ 0 ≤ s.2.1 ∧ s.2.1 + 20 * (w * h - s.1) ≤ P) →
    Tot (fun k => spec_l20Ras.l0 k n s.1 l s.2.1 w h s.2.2.1 s.2.2.2.f0 s.2.2.2.f1 s.2.2.2.f2 s.2.2.2.f3) (fun x => x.2.2.1.length ≤ 100 ∧ 0 ≤ x.2.2.2 ∧ x.2.2.2 ≤ P + 20) := by
  have hm1 : w * h ≤ 36 := by
    have : w * h ≤ 6 * 6 := Int.mul_le_mul hw.2 hh.2 (by omega) (by omega)
    omega
  have hm0 : 1 ≤ w * h := by
    have : (1 : Int) * 1 ≤ w * h := Int.mul_le_mul hw.1 hh.1 (by omega) (by omega)
    omega
  have hwr : wrap64 (w * h) = w * h := wrap_id (by omega) (by omega)
  obtain ⟨m, hm⟩ : ∃ m, m = w * h := ⟨_, rfl⟩
  rw [← hm] at hm0 hm1
  refine tot_ind (fun k (s : Int × Int × List Pix × Pix) => spec_l20Ras.l0 k n s.1 l s.2.1 w h s.2.2.1 s.2.2.2.f0 s.2.2.2.f1 s.2.2.2.f2 s.2.2.2.f3) _ (fun s => (m - s.1).toNat) _ ?_
  rintro ⟨i, p, s, z⟩ ⟨i1, i2, i3, i4, i5⟩ ih
  dsimp only at i1 i2 i3 i4 i5 ⊢
  rw [← hm] at i2 i5
  refine Tot.succ ?_
  simp only [spec_l20Ras.l0, hwr]
  rw [← hm]
  refine Tot.ite ?_ ?_ <;> intro hc
  · have hw1 : wrap64 (i + 1) = i + 1 := wrap_id (by omega) (by omega)
    refine Tot.bind (pick_tot hl p 3 (by omega) (by omega)) ?_
    rintro ⟨r0, p0⟩ ⟨e0, -, -, -⟩
    dsimp only at e0 ⊢
    rw [hw1]
    refine Tot.ite ?_ ?_ <;> intro hd
    · refine Tot.bind (l20Pix_tot hl p0 (by omega) (by omega)) ?_
      rintro ⟨c0, c1, c2, c3, p1⟩ ⟨e1, e2⟩
      dsimp only at e1 e2 ⊢
      refine Tot.pos (by omega) ?_
      exact ih (i + 1, p1, s ++ [⟨c0, c1, c2, c3⟩], ⟨c0, c1, c2, c3⟩) (by dsimp only; rw [← hm, List.length_append]; simp only [List.length_cons, List.length_nil]; omega) (by dsimp only; omega)
    · refine Tot.pos (by omega) ?_
      exact ih (i + 1, p0, s ++ [⟨z.f0, z.f1, z.f2, z.f3⟩], z) (by dsimp only; rw [← hm, List.length_append]; simp only [List.length_cons, List.length_nil]; omega) (by dsimp only; omega)
  · have hi : i = m := by omega
    have hlen : (s.length : Int) = m := by omega
    refine Tot.bind (odd_tot hl p n (by omega) (by omega) (by omega)) ?_
    rintro ⟨b1, p1⟩ ⟨e1, e2, -⟩
    dsimp only at e1 e2 ⊢
    refine Tot.ite ?_ ?_ <;> intro hb
    · refine Tot.bind (pick_tot hl p1 4 (by omega) (by omega)) ?_
      rintro ⟨r2, p2⟩ ⟨e3, -, -, -⟩
      dsimp only at e3 ⊢
      refine Tot.ite ?_ ?_ <;> intro hd
      · refine Tot.some_bind ?_
        refine Tot.bind (pick_tot hl p2 4 (by omega) (by omega)) ?_
        rintro ⟨r3, p3⟩ ⟨e4, a4, b4, -⟩
        dsimp only at e4 a4 b4 ⊢
        exact Tot.pos a4 (Tot.pos (by simp only [List.length_cons, List.length_nil]; omega) (Tot.ret ⟨by dsimp only; omega, by dsimp only; omega, by dsimp only; omega⟩))
      refine Tot.ite ?_ ?_ <;> intro hd
      · refine Tot.some_bind ?_
        refine Tot.bind (pick_tot hl p2 2 (by omega) (by omega)) ?_
        rintro ⟨r3, p3⟩ ⟨e4, a4, b4, -⟩
        dsimp only at e4 a4 b4 ⊢
        exact Tot.pos a4 (Tot.pos (by simp only [List.length_cons, List.length_nil]; omega) (Tot.ret ⟨by dsimp only; omega, by dsimp only; omega, by dsimp only; omega⟩))
      refine Tot.ite ?_ ?_ <;> intro hd
      · exact Tot.pos (by omega) (Tot.ret ⟨by dsimp only; rw [List.length_drop]; omega, by dsimp only; omega, by dsimp only; omega⟩)
      · refine Tot.bind (pick_tot hl p2 (s.length : Int) (by omega) (by omega)) ?_
        rintro ⟨r3, p3⟩ ⟨e4, a4, b4, -⟩
        dsimp only at e4 a4 b4 ⊢
        refine Tot.some_bind ?_
        refine Tot.bind (pick_tot hl p3 2 (by omega) (by omega)) ?_
        rintro ⟨r4, p4⟩ ⟨e5, a5, b5, -⟩
        dsimp only at e5 a5 b5 ⊢
        exact Tot.pos a5 (Tot.pos (by simp only [List.length_cons, List.length_nil]; omega) (Tot.pos a4 (Tot.pos (by omega) (Tot.ret ⟨by dsimp only; rw [List.length_set]; omega, by dsimp only; omega, by dsimp only; omega⟩))))
    · exact Tot.ret ⟨by dsimp only; omega, by dsimp only; omega, by dsimp only; omega⟩
theorem l20Ras_tot {l : List Int} (hl : Bytes l) (p n : Int) (h0 : 0 ≤ p) (h1 : p ≤ 600000000000) (hn : n ≤ 1000) : Tot (fun k => spec_l20Ras.f k l p n) (fun x => x.2.2.1.length ≤ 100 ∧ 0 ≤ x.2.2.2 ∧ x.2.2.2 ≤ p + 1000) := by
  simp only [spec_l20Ras.f]
  refine Tot.bind (pick_tot hl p 6 h0 (by omega)) ?_
  rintro ⟨r0, p0⟩ ⟨e0, a0, b0, -⟩
  dsimp only at e0 a0 b0 ⊢
  refine Tot.bind (pick_tot hl p0 6 (by omega) (by omega)) ?_
  rintro ⟨r1, p1⟩ ⟨e1, a1, b1, -⟩
  dsimp only at e1 a1 b1 ⊢
  refine Tot.bind (l20Pix_tot hl p1 (by omega) (by omega)) ?_
  rintro ⟨c0, c1, c2, c3, p2⟩ ⟨e2, e3⟩
  dsimp only at e2 e3 ⊢
  have w0 : wrap64 (1 + r0) = 1 + r0 := wrap_id (by omega) (by omega)
  have w1 : wrap64 (1 + r1) = 1 + r1 := wrap_id (by omega) (by omega)
  have hm : (1 + r0) * (1 + r1) ≤ 6 * 6 := Int.mul_le_mul (by omega) (by omega) (by omega) (by omega)
  have hm0 : (1 : Int) * 1 ≤ (1 + r0) * (1 + r1) := Int.mul_le_mul (by omega) (by omega) (by omega) (by omega)
  rw [w0, w1]
  exact (l20Ras_l0_tot hl n (1 + r0) (1 + r1) (by omega) (by omega) hn (p2 + 720) (by omega) (0, p2, [], ⟨c0, c1, c2, c3⟩) (by dsimp only [List.length_nil]; revert hm hm0; generalize (1 + r0) * (1 + r1) = q; intro hm hm0; omega)).mono (fun x hx => ⟨hx.1, hx.2.1, by omega⟩)
theorem drawOpDo_tot {l : List Int} (hu : ∀ y ∈ l, 0 ≤ y ∧ y ≤ 255) : Tot (fun k => spec_DrawOpDo.f k l) (fun x => x.2.2.1.length ≤ 100) := by
  simp only [spec_DrawOpDo.f]
  obtain ⟨b, e, hb⟩ := open_some l hu
  rw [e]
  refine Tot.some_bind ?_
  refine Tot.bind (l20Ras_tot hb 0 16 (by omega) (by omega) (by omega)) ?_
  rintro ⟨w, h, s, p⟩ ⟨h1, h2, h3⟩
  dsimp only at h1 h2 h3 ⊢
  refine Tot.bind (l20Op_tot hb p 9 (by omega) (by omega) (by omega)) ?_
  rintro ⟨o, a, b, c, d, q⟩ ⟨-, -⟩
  exact Tot.ret h1
end Go.Proofs.Ytoifpgkfpdeglaa.X

namespace Go.Proofs.Ytoifpgkfpdeglaa.X
open Go.RowKit Go.Proofs.YtoifpgkfpdeglaaW.PrintWords Go.Proofs.Ytoifpgkfpdeglaa.Pl
set_option linter.unusedSimpArgs false
set_option linter.unusedVariables false

theorem eaOk_some : laws_eaOk.f = some true := by
  unfold laws_eaOk.f impl_PixOk.f
  simp [partOk_some]
theorem eaRas_same (a b : Int) (l : List Pix) (hl : l.length ≤ 1048576) : Ev (fun k => laws_eaRas.f k a b l a b l) true := by
  have := ev_all l.length (fun k i => laws_eaRas.l0 k i a b l a b l) ?_ ?_
  · refine Ev.step (fun k => ?_) this
    unfold laws_eaRas.f
    rw [if_pos rfl, if_pos rfl, laws_eaRas.j0, if_neg (by simp)]
  · intro i hi h
    refine Ev.step (fun k => ?_) h
    rw [laws_eaRas.l0, if_pos (by omega), if_pos (by omega), if_pos (by omega), if_neg (by simp), wrap_succ (by omega)]
  · intro k
    rw [laws_eaRas.l0, if_neg (by omega)]
/-- A loop that goes on at each round. -/
theorem ev_all' (n : Nat) (g : Nat → Int → Option Bool) (hstep : ∀ i, i < n → Ev (fun k => g k ((i + 1 : Nat) : Int)) true → Ev (fun k => g k (i : Int)) true) (hend : Ev (fun k => g k (n : Int)) true) : Ev (fun k => g k 0) true := by
  have : ∀ d j, j + d = n → Ev (fun k => g k (j : Int)) true := by
    intro d
    induction d with
    | zero => intro j hj; have : j = n := by omega
              subst this; exact hend
    | succ d ih => intro j hj; exact hstep j (by omega) (ih (j + 1) (by omega))
  exact this n 0 (by omega)
/-- All is done in order, whatever can be. -/
def eaI : List Op → Int → Int → List Pix → Int × Int × List Pix
  | [], a, b, l => (a, b, l)
  | o :: os, a, b, l => eaI os (doI a b l o).1 (doI a b l o).2.1 (doI a b l o).2.2.1
theorem drop_op {os : List Op} {i : Nat} (hi : i < os.length) : os.drop i = rd_T27 os (i : Int) :: os.drop (i + 1) := by
  rw [List.drop_eq_getElem_cons hi]
  unfold rd_T27
  rw [List.getD_eq_getElem?_getD, Int.toNat_natCast, List.getElem?_eq_getElem hi]
  rfl
theorem eaDo_ev (os : List Op) (hos : os.length ≤ 1000) (a b : Int) (l : List Pix) : Ev (fun k => laws_eaDo.f k a b l os) (eaI os a b l) := by
  have key : ∀ d i, i + d = os.length → ∀ a b l, Ev (fun k => laws_eaDo.l0 k os (i : Int) a b l) (eaI (os.drop i) a b l) := by
    intro d
    induction d with
    | zero =>
      intro i hi a b l
      refine ev_succ ⟨0, fun k _ => ?_⟩
      rw [List.drop_of_length_le (by omega)]
      show laws_eaDo.l0 (k + 1) os (i : Int) a b l = _
      rw [laws_eaDo.l0, if_neg (by omega)]
      rfl
    | succ d ih =>
      intro i hi a b l
      rw [drop_op (show i < os.length by omega)]
      refine Ev.step (fun k => ?_) (ih (i + 1) (by omega) (doI a b l (rd_T27 os (i : Int))).1 (doI a b l (rd_T27 os (i : Int))).2.1 (doI a b l (rd_T27 os (i : Int))).2.2.1)
      rw [laws_eaDo.l0, if_pos (by omega), if_pos (by omega), wrap_succ (by omega)]
      rfl
  exact key os.length 0 (by omega) a b l
theorem eaI_ok {wd hg : Nat} {l : List Pix} (hv : Valid wd hg l) {o : Op} (ho : OkO o) (hm : hasM o wd hg = true) (os : List Op) : eaI (o :: os) wd hg l = eaI os (wideM o wd hg) (highM o wd hg) (picM o wd hg l) := by
  have e : doI wd hg l o = ((wideM o wd hg : Int), (highM o wd hg : Int), picM o wd hg l, true) := by
    unfold doI
    rw [(rasOkB_iff _ _ _).2 ⟨wd, hg, rfl, rfl, hv⟩, (okB_iff o).2 ho, Int.toNat_natCast, Int.toNat_natCast, hm]
    rfl
  show eaI os (doI wd hg l o).1 (doI wd hg l o).2.1 (doI wd hg l o).2.2.1 = _
  rw [e]
theorem okGray : OkO ⟨5, 0, 0, 0, 0⟩ := Or.inr (Or.inl ⟨by decide, rfl, rfl, rfl, rfl⟩)
theorem bytes_wf {l : List Int} (h : ∀ x ∈ l, (Lit.int .u8 x).wf = true) : ∀ y ∈ l, 0 ≤ y ∧ y ≤ 255 := by
  intro y hy
  have := h y hy
  simp [Lit.wf, IntKind.min, IntKind.max, IntKind.signed, IntKind.bits] at this
  omega
end Go.Proofs.Ytoifpgkfpdeglaa.X

namespace Go.Proofs.Ytoifpgkfpdeglaa.Pure
open Go.RowKit Go.Proofs.YtoifpgkfpdeglaaW.PrintWords Go.Proofs.Ytoifpgkfpdeglaa.Pl Go.Proofs.Ytoifpgkfpdeglaa.X
set_option linter.unusedSimpArgs false
set_option linter.unusedVariables false

theorem rd_in {l : List Pix} {p : Pix} (h : p ∈ l) : ∃ i, i < l.length ∧ rd_T36 l (i : Int) = p := by
  obtain ⟨i, hi, e⟩ := List.getElem_of_mem h
  refine ⟨i, hi, ?_⟩
  unfold rd_T36
  rw [List.getD_eq_getElem?_getD, Int.toNat_natCast, List.getElem?_eq_getElem hi]
  exact e
theorem rd_mem' {l : List Pix} {i : Nat} (hi : i < l.length) : rd_T36 l (i : Int) ∈ l := by
  unfold rd_T36
  rw [List.getD_eq_getElem?_getD, Int.toNat_natCast, List.getElem?_eq_getElem hi]
  exact List.getElem_mem hi
theorem ev_suc {α : Type} {g : Nat → Option α} {r : α} (h : Ev (fun k => g (k + 1)) r) : Ev g r := by
  obtain ⟨K, h⟩ := h
  refine ⟨K + 1, fun n hn => ?_⟩
  obtain ⟨m, rfl⟩ : ∃ m, n = m + 1 := ⟨n - 1, by omega⟩
  exact h m (by omega)
theorem size_A (n : Nat) : (1 + ((n : Int) % 6)) = ((1 + n % 6 : Nat) : Int) := by omega
theorem wrap_small {x : Int} (h0 : -9223372036854775808 ≤ x) (h1 : x < 9223372036854775808) : wrap64 x = x := wrap_id h0 (by omega)
theorem size_B (n : Nat) (h : n ≤ 1048576) : wrap64 (1 + (Int.tmod (wrap64 ((n : Int) / 7)) 6)) = ((1 + n / 7 % 6 : Nat) : Int) := by
  rw [wrap_small (x := (n : Int) / 7) (by omega) (by omega), Int.tmod_eq_emod_of_nonneg (by omega), wrap_small (by omega) (by omega)]
  omega
section
variable {a b : Int} {l : List Pix} {o0 o1 o2 o3 o4 x y : Int} {X : List Pix} {i : Nat}
theorem size_found (hl : l.length ≤ 1000000) (hX : X.length ≤ 1000000) (hi : i < X.length) (h : Ev (fun k => laws_FnOpSize.l0 k ((i + 1 : Nat) : Int) a b l o0 o1 o2 o3 o4 x y X) true) :
    ∀ d j : Nat, j + d = l.length → Ev (fun k => laws_FnOpSize.l1 k (i : Int) true (j : Int) a b l o0 o1 o2 o3 o4 x y X) true := by
  intro d
  induction d with
  | zero =>
    intro j hj
    refine Ev.step (fun k => ?_) h
    rw [laws_FnOpSize.l1, if_neg (by omega), if_pos rfl, wrap_succ (by omega)]
  | succ d ih =>
    intro j hj
    refine Ev.step (fun k => ?_) (ih (j + 1) (by omega))
    rw [laws_FnOpSize.l1, if_pos (by omega), if_pos rfl, wrap_succ (by omega)]
theorem size_seek (hl : l.length ≤ 1000000) (hX : X.length ≤ 1000000) (hi : i < X.length) (h : Ev (fun k => laws_FnOpSize.l0 k ((i + 1 : Nat) : Int) a b l o0 o1 o2 o3 o4 x y X) true) (m : Nat) (hm : m < l.length) (he : rd_T36 l (m : Int) = rd_T36 X (i : Int)) :
    ∀ d j : Nat, j + d = m → Ev (fun k => laws_FnOpSize.l1 k (i : Int) false (j : Int) a b l o0 o1 o2 o3 o4 x y X) true := by
  intro d
  induction d with
  | zero =>
    intro j hj
    have hj' : j = m := by omega
    subst hj'
    refine Ev.step (fun k => ?_) (size_found hl hX hi h (l.length - (j + 1)) (j + 1) (by omega))
    rw [laws_FnOpSize.l1, if_pos (by omega), if_neg (by decide), if_pos (by omega), if_pos (by omega), if_pos (by omega), he, wrap_succ (by omega)]
    simp only [beq_self_eq_true, Bool.and_self]
  | succ d ih =>
    intro j hj
    have nx : ∀ q : Bool, Ev (fun k => laws_FnOpSize.l1 k (i : Int) q ((j + 1 : Nat) : Int) a b l o0 o1 o2 o3 o4 x y X) true := by
      intro q
      cases q with
      | true => exact size_found hl hX hi h (l.length - (j + 1)) (j + 1) (by omega)
      | false => exact ih (j + 1) (by omega)
    have e : ∀ k, laws_FnOpSize.l1 (k + 1) (i : Int) false (j : Int) a b l o0 o1 o2 o3 o4 x y X = laws_FnOpSize.l1 k (i : Int) (((rd_T36 l (j : Int)).f0 == (rd_T36 X (i : Int)).f0) && (((rd_T36 l (j : Int)).f1 == (rd_T36 X (i : Int)).f1) && (((rd_T36 l (j : Int)).f2 == (rd_T36 X (i : Int)).f2) && ((rd_T36 l (j : Int)).f3 == (rd_T36 X (i : Int)).f3)))) ((j + 1 : Nat) : Int) a b l o0 o1 o2 o3 o4 x y X := by
      intro k
      rw [laws_FnOpSize.l1, if_pos (by omega), if_neg (by decide), if_pos (by omega), if_pos (by omega), if_pos (by omega), wrap_succ (by omega)]
    exact Ev.step e (nx _)
end
theorem FnOpSize : laws_FnOpSize.Pure := by
  intro l0 l1 _ _ hwf0 hm1 _ hwf1
  have hu := bytes_wf hwf0
  by_cases hlen : (l0.length : Int) > 1048576
  · exact ⟨1, by unfold laws_FnOpSize.f; rw [if_pos hlen, laws_FnOpSize.j0, if_pos rfl]⟩
  by_cases hlen1 : (l1.length : Int) > 1048576
  · exact ⟨1, by unfold laws_FnOpSize.f; rw [if_neg hlen, laws_FnOpSize.j0, if_pos (by simpa using hlen1)]⟩
  obtain ⟨⟨a, b, l, o0, o1, o2, o3, o4⟩, ⟨K0, h0⟩, hl100⟩ := drawOpDo_tot hu
  dsimp only at h0 hl100
  obtain ⟨K1, h1⟩ := spec_RasOk_ev a b l
  dsimp only at h1
  cases hr : rasOkB a b l with
  | false =>
    rw [hr] at h1
    obtain ⟨K2, h2⟩ := impl_RasOk_ev a b l
    rw [hr] at h2
    dsimp only at h2
    refine ⟨K0 + K1 + K2 + 1, ?_⟩
    unfold laws_FnOpSize.f
    rw [if_neg hlen, laws_FnOpSize.j0, if_neg (by simpa using hlen1), h0 _ (by omega)]
    simp only [Option.bind_some]
    rw [h1 _ (by omega)]
    simp only [Option.bind_some, Bool.false_eq_true, if_false]
    rw [h2 _ (by omega)]
    simp only [Option.bind_some, Bool.false_eq_true, if_false]
    rw [eaOk_some]
    rfl
  | true =>
    rw [hr] at h1
    obtain ⟨wd, hg, rfl, rfl, hv⟩ := (rasOkB_iff a b l).1 hr
    have hl := hv.2.2.1
    obtain ⟨A, hA⟩ : ∃ A : Nat, A = 1 + l1.length % 6 := ⟨_, rfl⟩
    obtain ⟨B, hB⟩ : ∃ B : Nat, B = 1 + l1.length / 7 % 6 := ⟨_, rfl⟩
    have EA : Aside0 ((1 + ((l1.length : Int) % 6)) = (A : Int)) := Aside0.mk (by rw [hA]; exact size_A _)
    have EB : Aside0 (wrap64 (1 + (Int.tmod (wrap64 ((l1.length : Int) / 7)) 6)) = (B : Int)) := Aside0.mk (by rw [hB]; exact size_B _ (by omega))
    have hA1 : 1 ≤ A ∧ A ≤ 6 := by omega
    have hB1 : 1 ≤ B ∧ B ≤ 6 := by omega
    have okS : OkO ⟨7, A, B, 0, 0⟩ := Or.inr (Or.inr (Or.inl ⟨rfl, by dsimp only; omega, by dsimp only; omega, rfl, rfl⟩))
    have okSame : OkO ⟨7, wd, hg, 0, 0⟩ := Or.inr (Or.inr (Or.inl ⟨rfl, by dsimp only; have := hv.1; omega, by dsimp only; have := hv.2.1; omega, rfl, rfl⟩))
    have hmv : isMove ⟨7, A, B, 0, 0⟩ := ⟨by show (7 : Int) ≠ 5; decide, by show (7 : Int) ≠ 6; decide, by show (7 : Int) ≠ 8; decide⟩
    obtain ⟨X, hX⟩ : ∃ X, X = picM ⟨7, A, B, 0, 0⟩ wd hg l := ⟨_, rfl⟩
    have vx : Valid A B X := by rw [hX]; exact valid_picM okS hv rfl
    have vg : Valid wd hg (picM ⟨5, 0, 0, 0, 0⟩ wd hg l) := valid_picM okGray hv rfl
    have g1 : eaI [⟨7, A, B, 0, 0⟩] wd hg l = ((A : Int), (B : Int), X) := by rw [hX]; exact eaI_ok hv okS rfl []
    have g2 : eaI [⟨7, wd, hg, 0, 0⟩] wd hg l = ((wd : Int), (hg : Int), l) := by
      rw [eaI_ok hv okSame rfl]
      show ((wd : Int), (hg : Int), _) = _
      rw [size_same hv.1.1 hv.2.1.1 hl]
    have g3 : eaI [⟨5, 0, 0, 0, 0⟩] A B X = ((A : Int), (B : Int), picM ⟨7, A, B, 0, 0⟩ wd hg (eachM grayP wd hg l)) := by
      rw [eaI_ok vx okGray rfl]
      show ((A : Int), (B : Int), eachM grayP A B X) = _
      rw [hX]
      exact congrArg (fun q => ((A : Int), (B : Int), q)) (each_move grayP okS hmv hv.1.1 hv.2.1.1 rfl l)
    have g4 : eaI [⟨5, 0, 0, 0, 0⟩, ⟨7, A, B, 0, 0⟩] wd hg l = ((A : Int), (B : Int), picM ⟨7, A, B, 0, 0⟩ wd hg (eachM grayP wd hg l)) := by
      rw [eaI_ok hv okGray rfl]
      exact eaI_ok vg okS rfl []
    have hd : doI wd hg l ⟨7, A, B, 0, 0⟩ = ((A : Int), (B : Int), X, true) := by
      have := doI_out (o := ⟨7, A, B, 0, 0⟩) hr ((okB_iff _).2 okS)
      rw [this, hX]
      rfl
    have hXm : ∀ p ∈ X, p ∈ l := by rw [hX]; exact fun p hp => move_mem okS hmv hv.1.1 hv.2.1.1 rfl hl hp
    have hle : wd * hg ≤ 6 * 6 := Nat.mul_le_mul hv.1.2 hv.2.1.2
    have hle' : A * B ≤ 6 * 6 := Nat.mul_le_mul hA1.2 hB1.2
    have hXl := vx.2.2.1
    obtain ⟨K2, h2⟩ := spec_OpDo_ev wd hg l ⟨7, A, B, 0, 0⟩
    dsimp only at h2
    rw [hd] at h2
    obtain ⟨A1, a1⟩ := eaDo_ev [⟨7, A, B, 0, 0⟩] (by simp) wd hg l
    obtain ⟨A2, a2⟩ := eaDo_ev [⟨7, wd, hg, 0, 0⟩] (by simp) wd hg l
    obtain ⟨A3, a3⟩ := eaDo_ev [⟨5, 0, 0, 0, 0⟩] (by simp) A B X
    obtain ⟨A4, a4⟩ := eaDo_ev [⟨5, 0, 0, 0, 0⟩, ⟨7, A, B, 0, 0⟩] (by simp) wd hg l
    rw [g1] at a1
    rw [g2] at a2
    rw [g3] at a3
    rw [g4] at a4
    obtain ⟨B1, b1⟩ := eaRas_same A B X (by rw [hXl]; omega)
    obtain ⟨B2, b2⟩ := eaRas_same wd hg l (by rw [hl]; omega)
    obtain ⟨B3, b3⟩ := eaRas_same A B (picM ⟨7, A, B, 0, 0⟩ wd hg (eachM grayP wd hg l)) (by rw [picM_length]; show A * B ≤ _; omega)
    dsimp only at a1 a2 a3 a4 b1 b2 b3
    have tend : Ev (fun k => laws_FnOpSize.l0 k (X.length : Int) wd hg l 7 A B 0 0 A B X) true := by
      refine ev_suc ⟨A2 + A3 + A4 + B2 + B3, fun n hn => ?_⟩
      dsimp only
      rw [laws_FnOpSize.l0, if_neg (by omega), a2 n (by omega)]
      simp only [Option.bind_some]
      rw [b2 n (by omega)]
      simp only [Option.bind_some, if_true]
      rw [a3 n (by omega)]
      simp only [Option.bind_some]
      rw [a4 n (by omega)]
      simp only [Option.bind_some]
      rw [b3 n (by omega)]
      rfl
    have t0 : Ev (fun k => laws_FnOpSize.l0 k 0 wd hg l 7 A B 0 0 A B X) true := by
      refine (fun h => ev_all' X.length (fun k i => laws_FnOpSize.l0 k i wd hg l 7 A B 0 0 A B X) ?_ h) tend
      intro i hi h
      obtain ⟨m, hm, he⟩ := rd_in (hXm _ (rd_mem' hi))
      refine Ev.step (fun k => ?_) (size_seek (by omega) (by omega) hi h m hm he m 0 (by omega))
      rw [laws_FnOpSize.l0, if_pos (by omega)]
      rfl
    obtain ⟨K3, h3⟩ := t0
    obtain ⟨n, hn⟩ : ∃ n, n = K0 + K1 + K2 + A1 + B1 + K3 := ⟨_, rfl⟩
    refine ⟨n + 2, ?_⟩
    have h3' := h3 n (by omega)
    dsimp only at h3'
    unfold laws_FnOpSize.f
    rw [if_neg hlen, laws_FnOpSize.j0, if_neg (by simpa using hlen1), h0 _ (by omega)]
    simp only [Option.bind_some]
    rw [h1 _ (by omega)]
    simp only [Option.bind_some, if_true]
    rw [EA.out, EB.out, a1 _ (by omega)]
    simp only [Option.bind_some]
    rw [h2 _ (by omega)]
    simp only [Option.bind_some]
    rw [b1 _ (by omega)]
    simp only [Option.bind_some, if_true, bne_self_eq_false]
    rw [laws_FnOpSize.j1, if_neg (by decide)]
    exact h3'
end Go.Proofs.Ytoifpgkfpdeglaa.Pure
