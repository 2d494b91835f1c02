/- Lemmas and contracts for the law FnOpEach, part 6: of the program's functions, and over data alone. No condition. -/
import Derived.Test.YtoifpgkfpdeglaaMFnOpEach2
import Derived.Test.YtoifpgkfpdeglaaMFnOpEach3
import Derived.Test.YtoifpgkfpdeglaaMFnOpEach5
import Derived.Test.YtoifpgkfpdeglaaMFnOpEach4
namespace Go.Proofs.Ytoifpgkfpdeglaa.X
open Go.RowKit Go.Proofs.YtoifpgkfpdeglaaW.PrintWords Go.Proofs.YtoifpgkfpdeglaaW.PrintLast Go.Proofs.YtoifpgkfpdeglaaW.PrintMore
attribute [local go_sem] max2_int min2_int max_two min_two max_three min_three max_four min_four
set_option linter.unusedVariables false
set_option linter.unusedSimpArgs false

open Go.Proofs.YtoifpgkfpdeglaaW.PrintWords.Aside0 renaming mk → yaa
open Go.Proofs.YtoifpgkfpdeglaaW.PrintWords.Kd renaming Q_types → yab, Q_apart' → yac, R_typed → yad, Q_below → yaf, Q_far → yah, R_alloc → yai, R_drewN → yaj, R_drew → yak, R_below → yan, R_mono → yao, freshB → yap, R_far → yau, R_base → yav, R_reads' → yaw, Q_mono → yay, Q_drew → yaz, Q_alloc → yba, Q_drewN → ybb, fresh' → ybd, R_elder' → ybe
open Go.Proofs.YtoifpgkfpdeglaaW.PrintWords renaming blk_below → yae, below_set → yag, below_step → yal, blk_put → yas, blk_far → yat, below_size → yax, Aside0 → ybc
open Go.Proofs.YtoifpgkfpdeglaaW.PrintLast renaming putSel_on → yam, steps_cons → yaq, putSel_upk → yar

/-! ### laws_FnOpEach: function 6 -/
abbrev q6_0 : Array Bool := #[false, false, false, false, false, false, false, false, false, false, false, false, false, false, false, false, false, false, false, false, false, false, false]
mutual
def laws_FnOpEach.j0 : Nat → List Int → List Int → Bool → Option (Bool)
 | 0, _, _, _ => none
 | k + 1, x0, x1, x21 => if x21 = true then (some true) else ((spec_DrawOpDo.f k x0).bind fun bt101 => ((spec_DrawPixOk.f k x1).bind fun bt113 => ((impl_OpDo.f bt101.1 bt101.2.1 bt101.2.2.1 bt101.2.2.2.1 bt101.2.2.2.2.1 bt101.2.2.2.2.2.1 bt101.2.2.2.2.2.2.1 bt101.2.2.2.2.2.2.2).bind fun bt118 => ((spec_OpDo.f k bt101.1 bt101.2.1 bt101.2.2.1 bt101.2.2.2.1 bt101.2.2.2.2.1 bt101.2.2.2.2.2.1 bt101.2.2.2.2.2.2.1 bt101.2.2.2.2.2.2.2).bind fun bt125 => ((laws_eaRas.f k bt118.1 bt118.2.1 bt118.2.2.1 bt125.1 bt125.2.1 bt125.2.2.1).bind fun t132 => (if t132 = true then (laws_FnOpEach.j1 k bt118.2.2.2 (bt118.2.2.2 != bt125.2.2.2) bt101.1 bt101.2.1 bt101.2.2.1 bt101.2.2.2.1 bt101.2.2.2.2.1 bt101.2.2.2.2.2.1 bt101.2.2.2.2.2.2.1 bt101.2.2.2.2.2.2.2 bt113.1 bt113.2.1 bt113.2.2.1 bt113.2.2.2 bt118.1 bt118.2.1 bt118.2.2.1) else (laws_FnOpEach.j1 k bt118.2.2.2 true bt101.1 bt101.2.1 bt101.2.2.1 bt101.2.2.2.1 bt101.2.2.2.2.1 bt101.2.2.2.2.2.1 bt101.2.2.2.2.2.2.1 bt101.2.2.2.2.2.2.2 bt113.1 bt113.2.1 bt113.2.2.1 bt113.2.2.2 bt118.1 bt118.2.1 bt118.2.2.1)))))))
def laws_FnOpEach.j1 : Nat → Bool → Bool → Int → Int → List (S36) → Int → Int → Int → Int → Int → Int → Int → Int → Int → Int → Int → List (S36) → Option (Bool)
 | 0, _, _, _, _, _, _, _, _, _, _, _, _, _, _, _, _, _ => none
 | k + 1, x9, x49, x112000, x112001, x112002, x113000, x113001, x113002, x113003, x113004, x118000, x118001, x118002, x118003, x125000, x125001, x125002 => if x49 = true then (some false) else (if x9 = true then ((spec_PixOk.f x118000 x118001 x118002 x118003).bind fun t133 => (if t133 = true then (if x113000 = 5 then (laws_FnOpEach.j2 k true x112000 x112001 x112002 x113000 x113001 x113002 x113003 x113004 x118000 x118001 x118002 x118003 x125000 x125001 x125002) else (if x113000 = 6 then (laws_FnOpEach.j2 k true x112000 x112001 x112002 x113000 x113001 x113002 x113003 x113004 x118000 x118001 x118002 x118003 x125000 x125001 x125002) else (laws_FnOpEach.j2 k (x113000 == 8) x112000 x112001 x112002 x113000 x113001 x113002 x113003 x113004 x118000 x118001 x118002 x118003 x125000 x125001 x125002))) else (laws_FnOpEach.j2 k true x112000 x112001 x112002 x113000 x113001 x113002 x113003 x113004 x118000 x118001 x118002 x118003 x125000 x125001 x125002))) else (laws_FnOpEach.j2 k true x112000 x112001 x112002 x113000 x113001 x113002 x113003 x113004 x118000 x118001 x118002 x118003 x125000 x125001 x125002))
def laws_FnOpEach.j2 : Nat → Bool → Int → Int → List (S36) → Int → Int → Int → Int → Int → Int → Int → Int → Int → Int → Int → List (S36) → Option (Bool)
 | 0, _, _, _, _, _, _, _, _, _, _, _, _, _, _, _, _ => none
 | k + 1, x71, x112000, x112001, x112002, x113000, x113001, x113002, x113003, x113004, x118000, x118001, x118002, x118003, x125000, x125001, x125002 => if x71 = true then ((laws_eaOk.f).bind fun t134 => (some t134)) else ((laws_eaDo.f k x125000 x125001 x125002 (([(⟨5, 0, 0, 0, 0⟩ : S27)] : List (S27)))).bind fun bt140 => ((laws_eaDo.f k x112000 x112001 x112002 (([(⟨5, 0, 0, 0, 0⟩ : S27), (⟨x113000, x113001, x113002, x113003, x113004⟩ : S27)] : List (S27)))).bind fun bt148 => ((laws_eaRas.f k bt140.1 bt140.2.1 bt140.2.2 bt148.1 bt148.2.1 bt148.2.2).bind fun t153 => (if t153 = true then ((laws_eaDo.f k x125000 x125001 x125002 (([(⟨8, x118000, x118001, x118002, 0⟩ : S27)] : List (S27)))).bind fun bt157 => ((laws_eaDo.f k x112000 x112001 x112002 (([(⟨8, x118000, x118001, x118002, 0⟩ : S27), (⟨x113000, x113001, x113002, x113003, x113004⟩ : S27)] : List (S27)))).bind fun bt165 => ((laws_eaRas.f k bt157.1 bt157.2.1 bt157.2.2 bt165.1 bt165.2.1 bt165.2.2).bind fun t170 => (some t170)))) else (some false)))))
end
def laws_FnOpEach.f (k : Nat) (l0 : List Int) (l1 : List Int) : Option (Bool) := if (l0.length : Int) > 1048576 then (laws_FnOpEach.j0 k l0 l1 true) else (laws_FnOpEach.j0 k l0 l1 (decide ((l1.length : Int) > 1048576)))
def laws_FnOpEach.T13 : Bool × List (List Nat × List Nat) := (true, [([], []), ([], []), ([1], [1]), ([0, 2], [0, 2]), ([], []), ([], []), ([], []), ([5, 6], [5, 6]), ([4, 7, 3], [4, 7]), ([3, 8, 8], [3, 8]), ([9, 9], [9]), ([10], [10]), ([10], [10]), ([12, 10], [10, 12]), ([11, 13, 10, 10], [10, 11, 13]), ([10], [10]), ([10], [10]), ([10], [10]), ([16, 17, 10], [10, 16, 17]), ([15, 18, 14, 10], [10, 15, 18]), ([14, 19, 19, 10], [10, 14, 19]), ([10, 20], [10, 20]), ([21, 20, 0, 1, 2, 3, 4, 5, 6, 7, 8, 9, 10, 11, 12, 13, 14, 15, 16, 17, 18, 19, 20, 21], [21])])
def laws_FnOpEach.B13 : List Nat := [0, 0, 2, 7, 0, 0, 0, 96, 255, 511, 1023, 2047, 2047, 6143, 16383, 2047, 2047, 2047, 198655, 524287, 1048575, 2097151, 4194303]
theorem laws_FnOpEach.tab13 : rtab .any (opsOf Try.f6 13) = laws_FnOpEach.T13 := by kernel_rfl
theorem laws_FnOpEach.bits13 : waitsOk laws_FnOpEach.T13.2 laws_FnOpEach.B13 = true := by kernel_rfl
set_option maxHeartbeats 8000000 in
set_option maxRecDepth 100000 in
theorem laws_FnOpEach.calls (k : Nat) (A0 : Option Addr) (c0 : Nat) (l0 : List Int) (A1 : Option Addr) (c1 : Nat) (l1 : List Int) (r : Bool) (w : World) (hr0 : Kd.C (Kd.int .u8) w A0 l0.length l0) (hc0 : l0.length ≤ c0) (hr1 : Kd.C (Kd.int .u8) w A1 l1.length l1) (hc1 : l1.length ≤ c1) (h : laws_FnOpEach.f k l0 l1 = some r) (hrt : r = true) :
  Calls Try.prog 6 #[.slice A0 l0.length c0, .slice A1 l1.length c1] w fun e w' => e = .returned (.bool r) ∧ Below w.heap.size w w' := by
 have hu25 := Try.underlying25; have hu27 := Try.underlying27; have hu36 := Try.underlying36; have HR0 := yaa hr0; have HC0 := yaa hc0; clear hr0 hc0; have HR1 := yaa hr1; have HC1 := yaa hc1; clear hr1 hc1; have HB := yaa (Below.refl w.heap.size w); have H : (if (l0.length : Int) > 1048576 then (laws_FnOpEach.j0 k l0 l1 true) else (laws_FnOpEach.j0 k l0 l1 (decide ((l1.length : Int) > 1048576)))) = some r := h; clear h; have HC3 := yaa H; clear H
 go_enter Try.func6, Try.ntmps6
 go_upto_region 1 with (fail)
 go_cut [21] (fun v21 wc => ∃ (kq : Nat) (p7 : Bool), v21 = .bool p7 ∧ ybc (laws_FnOpEach.j0 kq l0 l1 p7 = some r) ∧ ybc (kq ≤ k) ∧ ybc (Below w.heap.size w wc))
 case first =>
  have H := HC3.out; clear HC3
  by_cases c4 : (l0.length : Int) > 1048576
  ·
   rw [if_pos c4] at H
   have p5 : decide (1048576 < (l0.length : Int)) = true := decide_eq_true c4; have G7 : decide (1048576 < l0.length) = true := decide_eq_true (by omega); clear c4
   (first | rw [p5] | (simp only [i64_w, i32_w]; rw [p5]) | skip)
   have H' := yaa H; clear H
   go_wp2
   go_meet
   case rel => exact ⟨_, (true), (by first | rfl | (simp; done) | (simp [*]; done)), H', ⟨by first | omega | exact Nat.le_refl _⟩, ⟨upH HB.out⟩⟩
  ·
   rw [if_neg c4] at H
   have p5 : decide (1048576 < (l0.length : Int)) = false := decide_eq_false c4; have G7 : decide (1048576 < l0.length) = false := decide_eq_false (by omega); clear c4
   (first | rw [p5] | (simp only [i64_w, i32_w]; rw [p5]) | skip)
   have H' := yaa H; clear H
   go_wp2
   go_meet
   case rel => exact ⟨_, (decide ((l1.length : Int) > 1048576)), (by first | rfl | (simp; done) | (simp [*]; done)), H', ⟨by first | omega | exact Nat.le_refl _⟩, ⟨upH HB.out⟩⟩
 case rest =>
  clear HC3; (try clear c1); (try clear p2); (try clear c4); (try clear p5); (try clear G7); obtain ⟨kq, p7, rfl, HA, HJ2, HB⟩ := hcut
  cases kq with
  | zero => exact absurd HA.out (by simp [laws_FnOpEach.j0])
  | succ kj2 =>
   have H := HA.out; clear HA
   simp only [laws_FnOpEach.j0] at H
   by_cases c5 : p7 = true
   ·
    subst c5
    rw [if_pos rfl] at H
    obtain rfl := Option.some.inj H
    go_wp2
    go_ret
    exact ⟨by first | rfl | (simp [*, errW_none, errW_some] <;> rfl), upH HB.out⟩
   ·
    replace c5 := Bool.eq_false_iff.mpr c5
    subst c5
    rw [if_neg (show ¬ (false = true) by decide)] at H
    replace H := Option.bind_eq_some_iff.mp H; obtain ⟨⟨k0, k2, g0, g6, i6, i7, j3, j4⟩, A60, H⟩ := H; (try dsimp only at H); have A6 := yaa A60; clear A60; replace H := Option.bind_eq_some_iff.mp H; obtain ⟨⟨f1, f5, f9, m4⟩, A70, H⟩ := H; (try dsimp only at H); have A7 := yaa A70; clear A70; replace H := Option.bind_eq_some_iff.mp H; obtain ⟨⟨j7, j8, g1, G8⟩, A80, H⟩ := H; (try dsimp only at H); have A8 := yaa A80; clear A80; replace H := Option.bind_eq_some_iff.mp H; obtain ⟨⟨l2, l6, g7, O6⟩, A90, H⟩ := H; (try dsimp only at H); have A9 := yaa A90; clear A90; have HC10 := yaa H; clear H
    go_upto_region 7 with (first | ((with_reducible refine gate_callee (f := 10) rfl ?_); refine gl_ (some 24) rfl Try.func10 #[.slice A0 l0.length c0] ?_; (with_reducible refine (spec_DrawOpDo.calls kj2 _ _ l0 k0 k2 g0 g6 i6 i7 j3 j4 _ ?side1 ?side2 A6.out).mono ?_); (case side1 => repeat (first | exact (Kd.C_below HR0.out HB.out) | (with_reducible refine Kd.C_alloc ?_ _) | (with_reducible refine Kd.C_drewN ?_ _) | (with_reducible refine Kd.C_drew ?_))); (case side2 => exact HC0.out); rintro e w11 ⟨cW, rfl, ho0, hb⟩; refine ⟨_, rfl, ?_⟩; have i4 := yaa (Kd.Q_lower ho0 (yax (upH HB.out))); replace HB := yaa (yal (upH HB.out) hb); (try clear hb); (try clear hb2); (try clear hk); (try clear hi); (try clear ho0)) | ((with_reducible refine gate_dst (N := 5) rfl ?_); (try (refine gate_guard (by rfl) ?_; dsimp only)); refine bx_ 5 #[.int .i64 0, .int .i64 0, .slice none 0 0] 25 ?_; intro h3 hg w12 hbox hb; replace i4 := yaa (yaf (upQ i4.out) hb); have a9 := yaa (hbox); have O7 := yaa ((by rw [hg]; exact (yax (upH HB.out)) : w.heap.size ≤ h3)); replace HB := yaa (yal (upH HB.out) hb); have X7 := O7; clear hb hbox hg) | ((with_reducible refine gate_dst (N := 6) rfl ?_); (try (refine gate_guard (by rfl) ?_; dsimp only)); refine bx_ 6 #[.int .i64 0, .int .i64 0, .int .i64 0, .int .i64 0, .int .i64 0] 27 ?_; intro f2 hg w13 hbox hb; replace i4 := yaa (yaf (upQ i4.out) hb); have a5 := yaa (hbox); have O8 := yaa ((by rw [hg]; exact (yax (by repeat (with_reducible first | exact HB.out | refine oneH ?_ | refine yag ?_ (Aside0.out ‹_›)))) : w.heap.size ≤ f2)); replace HB := yaa (yal (by repeat (with_reducible first | exact HB.out | refine oneH ?_ | refine yag ?_ (Aside0.out ‹_›))) hb); have X8 := O8; have j6 := yaa ((by rw [hg]; exact Nat.ne_of_lt (blk_lt (upB a9.out)) : h3 ≠ f2)); replace a9 := yaa (yae (upB a9.out) hb); have l3 := yaa j6.out.symm; clear hb hbox hg; have X9 := j6.out; have Y0 := l3.out; obtain ⟨p8, p9, q0⟩ := cc3_ a9.out; obtain ⟨q1, q2, q3⟩ := cf3_ a9.out; obtain ⟨i1, h4, S5, _⟩ := Kd.Q_slice i4.out; subst S5; obtain ⟨q4, q5, q6, q7, q8⟩ := cc5_ a5.out; obtain ⟨q9, r0, r1, r2⟩ := cf4_ a5.out; have r3 := blk_frozen a5.out 4) | ((with_reducible refine gate_callee (f := 18) rfl ?_); refine gl_ (some 28) rfl Try.func18 #[.slice A1 l1.length c1] ?_; (with_reducible refine (spec_DrawPixOk.calls kj2 _ _ l1 f1 f5 f9 m4 _ ?side1 ?side2 A7.out).mono ?_); (case side1 => exact Kd.C_below HR1.out (by repeat (with_reducible first | exact HB.out | refine oneH ?_ | refine yag ?_ (Aside0.out ‹_›)))); (case side2 => exact HC1.out); rintro e w18 ⟨rfl, hb⟩; refine ⟨_, rfl, ?_⟩; replace i4 := yaa (yaf (by (with_reducible repeat (first | apply yba | apply ybb | apply yaz)); exact (yay (yay (yah (p := ⟨f2, 4, none⟩) (yah (p := ⟨f2, 3, none⟩) (yah (p := ⟨f2, 2, none⟩) (yah (p := ⟨f2, 1, none⟩) (yah (p := ⟨f2, 0, none⟩) (yah (p := ⟨h3, 2, none⟩) (yah (p := ⟨h3, 1, none⟩) (yah (p := ⟨h3, 0, none⟩) (yab (yab i4.out a9.out (by decide)) a5.out (by decide)) (fun _ hk => hk.1.2) (.int .i64 k0)) (fun _ hk => hk.1.2) (.int .i64 k2)) (fun _ hk => hk.1.2) (.slice i1 g0.length h4)) (fun _ hk => hk.2) (.int .i64 g6)) (fun _ hk => hk.2) (.int .i64 i6)) (fun _ hk => hk.2) (.int .i64 i7)) (fun _ hk => hk.2) (.int .i64 j3)) (fun _ hk => hk.2) (.int .i64 j4)) (fun _ h_ => h_.1)) (fun _ h_ => h_.1))) hb); replace a9 := yaa (yae (g := h3) (o := .cells #[.int .i64 k0, .int .i64 k2, .slice i1 g0.length h4] 25 (0, 0)) (by (repeat refine oneB ?_); refine yat ?_ j6.out _; (repeat refine oneB ?_); refine yat ?_ j6.out _; (repeat refine oneB ?_); refine yat ?_ j6.out _; (repeat refine oneB ?_); refine yat ?_ j6.out _; (repeat refine oneB ?_); refine yat ?_ j6.out _; (repeat refine oneB ?_); refine yas (cs := #[.int .i64 k0, .int .i64 k2, .slice none 0 0]) ?_ 2 _ rfl; refine yas (cs := #[.int .i64 k0, .int .i64 0, .slice none 0 0]) ?_ 1 _ rfl; refine yas (cs := #[.int .i64 0, .int .i64 0, .slice none 0 0]) ?_ 0 _ rfl; exact upB a9.out) hb); replace a5 := yaa (yae (g := f2) (o := .cells #[.int .i64 g6, .int .i64 i6, .int .i64 i7, .int .i64 j3, .int .i64 j4] 27 (0, 0)) (by (repeat refine oneB ?_); refine yas (cs := #[.int .i64 g6, .int .i64 i6, .int .i64 i7, .int .i64 j3, .int .i64 0]) ?_ 4 _ rfl; refine yas (cs := #[.int .i64 g6, .int .i64 i6, .int .i64 i7, .int .i64 0, .int .i64 0]) ?_ 3 _ rfl; refine yas (cs := #[.int .i64 g6, .int .i64 i6, .int .i64 0, .int .i64 0, .int .i64 0]) ?_ 2 _ rfl; refine yas (cs := #[.int .i64 g6, .int .i64 0, .int .i64 0, .int .i64 0, .int .i64 0]) ?_ 1 _ rfl; refine yas (cs := #[.int .i64 0, .int .i64 0, .int .i64 0, .int .i64 0, .int .i64 0]) ?_ 0 _ rfl; (repeat refine oneB ?_); refine yat ?_ l3.out _; (repeat refine oneB ?_); refine yat ?_ l3.out _; (repeat refine oneB ?_); refine yat ?_ l3.out _; exact upB a5.out) hb); replace HB := yaa (yal (by repeat (with_reducible first | exact HB.out | refine oneH ?_ | refine yag ?_ (Aside0.out ‹_›))) hb); (try clear hb); (try clear hb2); (try clear hk); (try clear hi)) | ((with_reducible refine gate_dst (N := 7) rfl ?_); (try (refine gate_guard (by rfl) ?_; dsimp only)); refine bx_ 7 #[.int .i64 0, .int .i64 0, .int .i64 0, .int .i64 0] 36 ?_; intro e1 hg w19 hbox hb; replace i4 := yaa (yaf (Kd.Q_elderB (upQ i4.out) e1 (Nat.le_of_eq hg.symm)) hb); have b4 := yaa (hbox); have O9 := yaa ((by rw [hg]; exact (yax (by repeat (with_reducible first | exact HB.out | refine oneH ?_ | refine yag ?_ (Aside0.out ‹_›)))) : w.heap.size ≤ e1)); replace HB := yaa (yal (by repeat (with_reducible first | exact HB.out | refine oneH ?_ | refine yag ?_ (Aside0.out ‹_›))) hb); have Y1 := O9; have k3 := yaa ((by rw [hg]; exact Nat.ne_of_lt (blk_lt (upB a9.out)) : h3 ≠ e1)); replace a9 := yaa (yae (upB a9.out) hb); have l7 := yaa k3.out.symm; have k4 := yaa ((by rw [hg]; exact Nat.ne_of_lt (blk_lt (upB a5.out)) : f2 ≠ e1)); replace a5 := yaa (yae (upB a5.out) hb); have l8 := yaa k4.out.symm; clear hb hbox hg; have Y2 := l7.out; have Y3 := k3.out; have Y4 := l8.out; have Y5 := k4.out; obtain ⟨r4, r5, r6, r7⟩ := cc4_ b4.out; obtain ⟨r8, r9, s0, s1⟩ := cf4_ b4.out; obtain ⟨s2, s3, s4⟩ := cc3_ a9.out; obtain ⟨s5, s6, s7⟩ := cf3_ a9.out; obtain ⟨s8, s9, t0, t1, t2⟩ := cc5_ a5.out; obtain ⟨t3, t4, t5, t6⟩ := cf4_ a5.out; have t7 := blk_frozen a5.out 4) | ((with_reducible refine gate_callee (f := 11) rfl ?_); refine gl_ (some 32) rfl Try.func11 #[.agg #[.int .i64 k0, .int .i64 k2, .slice i1 g0.length h4], .agg #[.int .i64 g6, .int .i64 i6, .int .i64 i7, .int .i64 j3, .int .i64 j4]] ?_; (with_reducible refine (impl_OpDo.calls k0 k2 _ _ g0 g6 i6 i7 j3 j4 j7 j8 g1 G8 _ ?side1 ?side2 A8.out).mono ?_); (case side1 => refine (Kd.Q_reads' (e := 36) (base := w.heap.size) (ok := fun k_ => (True ∧ k_ ≠ e1)) (n := g0.length) (c := h4) ?_).2.2; exact (by (with_reducible repeat (first | apply yba | apply ybb | apply yaz)); exact (yay (yah (p := ⟨e1, 3, none⟩) (yah (p := ⟨e1, 2, none⟩) (yah (p := ⟨e1, 1, none⟩) (yah (p := ⟨e1, 0, none⟩) (yay i4.out (fun k_ hk => (⟨hk, hk.2⟩ : _ ∧ k_ ≠ e1))) (fun _ hk => hk.2) (.int .i64 f1)) (fun _ hk => hk.2) (.int .i64 f5)) (fun _ hk => hk.2) (.int .i64 f9)) (fun _ hk => hk.2) (.int .i64 m4)) (fun _ h_ => h_.1)))); (case side2 => exact (Kd.Q_reads' i4.out).2.1); rintro e w25 ⟨cX, rfl, ho0, hb⟩; refine ⟨_, rfl, ?_⟩; have k9 := yaa (Kd.R_lower (Kd.R_newB (Kd.R_new' ho0 (Kd.Q_lt (by (with_reducible repeat (first | apply yba | apply ybb | apply yaz)); exact (yay (yah (p := ⟨e1, 3, none⟩) (yah (p := ⟨e1, 2, none⟩) (yah (p := ⟨e1, 1, none⟩) (yah (p := ⟨e1, 0, none⟩) (yay i4.out (fun k_ hk => (⟨hk, hk.2⟩ : _ ∧ k_ ≠ e1))) (fun _ hk => hk.2) (.int .i64 f1)) (fun _ hk => hk.2) (.int .i64 f5)) (fun _ hk => hk.2) (.int .i64 f9)) (fun _ hk => hk.2) (.int .i64 m4)) (fun _ h_ => h_.1))))) (g := e1) (o := .cells #[.int .i64 f1, .int .i64 f5, .int .i64 f9, .int .i64 m4] 36 (0, 0)) (by (repeat refine oneB ?_); refine yas (cs := #[.int .i64 f1, .int .i64 f5, .int .i64 f9, .int .i64 0]) ?_ 3 _ rfl; refine yas (cs := #[.int .i64 f1, .int .i64 f5, .int .i64 0, .int .i64 0]) ?_ 2 _ rfl; refine yas (cs := #[.int .i64 f1, .int .i64 0, .int .i64 0, .int .i64 0]) ?_ 1 _ rfl; refine yas (cs := #[.int .i64 0, .int .i64 0, .int .i64 0, .int .i64 0]) ?_ 0 _ rfl; exact upB b4.out)) (yax (by repeat (with_reducible first | exact HB.out | refine oneH ?_ | refine yag ?_ (Aside0.out ‹_›))))); replace i4 := yaa (Kd.Q_elder' (by (with_reducible repeat (first | apply yba | apply ybb | apply yaz)); exact (yay (yah (p := ⟨e1, 3, none⟩) (yah (p := ⟨e1, 2, none⟩) (yah (p := ⟨e1, 1, none⟩) (yah (p := ⟨e1, 0, none⟩) (yay i4.out (fun k_ hk => (⟨hk, hk.2⟩ : _ ∧ k_ ≠ e1))) (fun _ hk => hk.2) (.int .i64 f1)) (fun _ hk => hk.2) (.int .i64 f5)) (fun _ hk => hk.2) (.int .i64 f9)) (fun _ hk => hk.2) (.int .i64 m4)) (fun _ h_ => h_.1))) (yav ho0) hb); replace a9 := yaa (yae (g := h3) (o := .cells #[.int .i64 k0, .int .i64 k2, .slice i1 g0.length h4] 25 (0, 0)) (by repeat (with_reducible first | exact a9.out | refine oneB ?_ | refine yat ?_ k3.out _)) hb); replace a5 := yaa (yae (g := f2) (o := .cells #[.int .i64 g6, .int .i64 i6, .int .i64 i7, .int .i64 j3, .int .i64 j4] 27 (0, 0)) (by repeat (with_reducible first | exact a5.out | refine oneB ?_ | refine yat ?_ k4.out _)) hb); replace b4 := yaa (yae (g := e1) (o := .cells #[.int .i64 f1, .int .i64 f5, .int .i64 f9, .int .i64 m4] 36 (0, 0)) (by (repeat refine oneB ?_); refine yas (cs := #[.int .i64 f1, .int .i64 f5, .int .i64 f9, .int .i64 0]) ?_ 3 _ rfl; refine yas (cs := #[.int .i64 f1, .int .i64 f5, .int .i64 0, .int .i64 0]) ?_ 2 _ rfl; refine yas (cs := #[.int .i64 f1, .int .i64 0, .int .i64 0, .int .i64 0]) ?_ 1 _ rfl; refine yas (cs := #[.int .i64 0, .int .i64 0, .int .i64 0, .int .i64 0]) ?_ 0 _ rfl; exact upB b4.out) hb); replace HB := yaa (yal (by repeat (with_reducible first | exact HB.out | refine oneH ?_ | refine yag ?_ (Aside0.out ‹_›))) hb); (try clear hb); (try clear hb2); (try clear hk); (try clear hi); (try clear ho0)) | ((with_reducible refine gate_dst (N := 8) rfl ?_); (try (refine gate_guard (by rfl) ?_; dsimp only)); refine bx_ 8 #[.int .i64 0, .int .i64 0, .slice none 0 0] 25 ?_; intro f7 hg w26 hbox hb; replace i4 := yaa (yaf (upQ i4.out) hb); replace k9 := yaa (yan (upR k9.out) hb); have b0 := yaa (hbox); have P0 := yaa ((by rw [hg]; exact (yax (by repeat (with_reducible first | exact HB.out | refine oneH ?_ | refine yag ?_ (Aside0.out ‹_›)))) : w.heap.size ≤ f7)); replace HB := yaa (yal (by repeat (with_reducible first | exact HB.out | refine oneH ?_ | refine yag ?_ (Aside0.out ‹_›))) hb); have Y6 := P0; have m5 := yaa ((by rw [hg]; exact Nat.ne_of_lt (blk_lt (upB a9.out)) : h3 ≠ f7)); replace a9 := yaa (yae (upB a9.out) hb); have n7 := yaa m5.out.symm; have k5 := yaa ((by rw [hg]; exact Nat.ne_of_lt (blk_lt (upB a5.out)) : f2 ≠ f7)); replace a5 := yaa (yae (upB a5.out) hb); have l9 := yaa k5.out.symm; have i8 := yaa ((by rw [hg]; exact Nat.ne_of_lt (blk_lt (upB b4.out)) : e1 ≠ f7)); replace b4 := yaa (yae (upB b4.out) hb); have k6 := yaa i8.out.symm; clear hb hbox hg; have Y7 := n7.out; have Y8 := m5.out; have Y9 := l9.out; have Z0 := k5.out; have Z1 := k6.out; have Z2 := i8.out; obtain ⟨t8, t9, u0⟩ := cc3_ b0.out; obtain ⟨u1, u2, u3⟩ := cf3_ b0.out; obtain ⟨i2, h9, S6⟩ := Kd.R_slice k9.out; subst S6; obtain ⟨u4, u5, u6⟩ := cc3_ a9.out; obtain ⟨u7, u9, v0⟩ := cf3_ a9.out; obtain ⟨v1, v2, v3, v4, v5⟩ := cc5_ a5.out; obtain ⟨v6, v7, v8, v9⟩ := cf4_ a5.out; have w2 := blk_frozen a5.out 4) | ((with_reducible refine gate_callee (f := 12) rfl ?_); refine gl_ (some 38) rfl Try.func12 #[.agg #[.int .i64 k0, .int .i64 k2, .slice i1 g0.length h4], .agg #[.int .i64 g6, .int .i64 i6, .int .i64 i7, .int .i64 j3, .int .i64 j4]] ?_; (with_reducible refine (spec_OpDo.calls kj2 k0 k2 _ _ g0 g6 i6 i7 j3 j4 l2 l6 g7 O6 _ ?side1 ?side2 A9.out).mono ?_); (case side1 => refine (Kd.Q_reads' (e := 36) (base := w.heap.size) (ok := fun k_ => ((True ∧ k_ ≠ e1) ∧ some k_ ≠ (.slice i2 g1.length h9 : Value).ownBlock)) (n := g0.length) (c := h4) ?_).2.2; exact (by (with_reducible repeat (first | apply yba | apply ybb | apply yaz)); exact (yay (yah (p := ⟨f7, 2, none⟩) (yah (p := ⟨f7, 1, none⟩) (yah (p := ⟨f7, 0, none⟩) (yab i4.out b0.out (by decide)) (fun _ hk => hk.2) (.int .i64 j7)) (fun _ hk => hk.2) (.int .i64 j8)) (fun _ hk => hk.2) (.slice i2 g1.length h9)) (fun _ h_ => h_.1)))); (case side2 => exact (Kd.Q_reads' i4.out).2.1); rintro e w34 ⟨cY, rfl, ho0, hb⟩; refine ⟨_, rfl, ?_⟩; have m6 := yaa (Kd.R_lower (Kd.R_newB (Kd.R_new' (Kd.R_new' ho0 (Kd.Q_lt (by (with_reducible repeat (first | apply yba | apply ybb | apply yaz)); exact (yay (yah (p := ⟨f7, 2, none⟩) (yah (p := ⟨f7, 1, none⟩) (yah (p := ⟨f7, 0, none⟩) (yab i4.out b0.out (by decide)) (fun _ hk => hk.2) (.int .i64 j7)) (fun _ hk => hk.2) (.int .i64 j8)) (fun _ hk => hk.2) (.slice i2 g1.length h9)) (fun _ h_ => h_.1))))) (Kd.R_lt (by (with_reducible repeat (first | apply yai | apply yaj | apply yak)); exact (yao (yau (p := ⟨f7, 2, none⟩) (yau (p := ⟨f7, 1, none⟩) (yau (p := ⟨f7, 0, none⟩) (Kd.R_types k9.out b0.out (by decide)) (fun _ hk => hk.2) (.int .i64 j7)) (fun _ hk => hk.2) (.int .i64 j8)) (fun _ hk => hk.2) (.slice i2 g1.length h9)) (fun _ h_ => h_.1))))) (g := e1) (o := .cells #[.int .i64 f1, .int .i64 f5, .int .i64 f9, .int .i64 m4] 36 (0, 0)) (by repeat (with_reducible first | exact b4.out | refine oneB ?_ | refine yat ?_ i8.out _))) (yax (by repeat (with_reducible first | exact HB.out | refine oneH ?_ | refine yag ?_ (Aside0.out ‹_›))))); replace i4 := yaa (Kd.Q_elder' (by (with_reducible repeat (first | apply yba | apply ybb | apply yaz)); exact (yay (yah (p := ⟨f7, 2, none⟩) (yah (p := ⟨f7, 1, none⟩) (yah (p := ⟨f7, 0, none⟩) (yab i4.out b0.out (by decide)) (fun _ hk => hk.2) (.int .i64 j7)) (fun _ hk => hk.2) (.int .i64 j8)) (fun _ hk => hk.2) (.slice i2 g1.length h9)) (fun _ h_ => h_.1))) (yav ho0) hb); replace k9 := yaa (ybe (by (with_reducible repeat (first | apply yai | apply yaj | apply yak)); exact (yao (yau (p := ⟨f7, 2, none⟩) (yau (p := ⟨f7, 1, none⟩) (yau (p := ⟨f7, 0, none⟩) (Kd.R_types k9.out b0.out (by decide)) (fun _ hk => hk.2) (.int .i64 j7)) (fun _ hk => hk.2) (.int .i64 j8)) (fun _ hk => hk.2) (.slice i2 g1.length h9)) (fun _ h_ => h_.1))) (yav ho0) hb); replace a9 := yaa (yae (g := h3) (o := .cells #[.int .i64 k0, .int .i64 k2, .slice i1 g0.length h4] 25 (0, 0)) (by repeat (with_reducible first | exact a9.out | refine oneB ?_ | refine yat ?_ m5.out _)) hb); replace a5 := yaa (yae (g := f2) (o := .cells #[.int .i64 g6, .int .i64 i6, .int .i64 i7, .int .i64 j3, .int .i64 j4] 27 (0, 0)) (by repeat (with_reducible first | exact a5.out | refine oneB ?_ | refine yat ?_ k5.out _)) hb); replace b4 := yaa (yae (g := e1) (o := .cells #[.int .i64 f1, .int .i64 f5, .int .i64 f9, .int .i64 m4] 36 (0, 0)) (by repeat (with_reducible first | exact b4.out | refine oneB ?_ | refine yat ?_ i8.out _)) hb); replace b0 := yaa (yae (g := f7) (o := .cells #[.int .i64 j7, .int .i64 j8, .slice i2 g1.length h9] 25 (0, 0)) (by (repeat refine oneB ?_); refine yas (cs := #[.int .i64 j7, .int .i64 j8, .slice none 0 0]) ?_ 2 _ rfl; refine yas (cs := #[.int .i64 j7, .int .i64 0, .slice none 0 0]) ?_ 1 _ rfl; refine yas (cs := #[.int .i64 0, .int .i64 0, .slice none 0 0]) ?_ 0 _ rfl; exact upB b0.out) hb); replace HB := yaa (yal (by repeat (with_reducible first | exact HB.out | refine oneH ?_ | refine yag ?_ (Aside0.out ‹_›))) hb); (try clear hb); (try clear hb2); (try clear hk); (try clear hi); (try clear ho0)) | ((with_reducible refine gate_dst (N := 10) rfl ?_); (try (refine gate_guard (by rfl) ?_; dsimp only)); refine bx_ 10 #[.int .i64 0, .int .i64 0, .slice none 0 0] 25 ?_; intro e3 hg w35 hbox hb; replace i4 := yaa (yaf (upQ i4.out) hb); replace k9 := yaa (yan (upR k9.out) hb); replace m6 := yaa (yan (upR m6.out) hb); have b1 := yaa (hbox); have P1 := yaa ((by rw [hg]; exact (yax (by repeat (with_reducible first | exact HB.out | refine oneH ?_ | refine yag ?_ (Aside0.out ‹_›)))) : w.heap.size ≤ e3)); replace HB := yaa (yal (by repeat (with_reducible first | exact HB.out | refine oneH ?_ | refine yag ?_ (Aside0.out ‹_›))) hb); have Z3 := P1; have m0 := yaa ((by rw [hg]; exact Nat.ne_of_lt (blk_lt (upB a9.out)) : h3 ≠ e3)); replace a9 := yaa (yae (upB a9.out) hb); have n8 := yaa m0.out.symm; have j9 := yaa ((by rw [hg]; exact Nat.ne_of_lt (blk_lt (upB a5.out)) : f2 ≠ e3)); replace a5 := yaa (yae (upB a5.out) hb); have m1 := yaa j9.out.symm; have i9 := yaa ((by rw [hg]; exact Nat.ne_of_lt (blk_lt (upB b4.out)) : e1 ≠ e3)); replace b4 := yaa (yae (upB b4.out) hb); have k7 := yaa i9.out.symm; have m2 := yaa ((by rw [hg]; exact Nat.ne_of_lt (blk_lt (upB b0.out)) : f7 ≠ e3)); replace b0 := yaa (yae (upB b0.out) hb); have n9 := yaa m2.out.symm; clear hb hbox hg; have Z4 := n8.out; have Z5 := m0.out; have Z6 := m1.out; have Z7 := j9.out; have Z8 := k7.out; have Z9 := i9.out; have aA := n9.out; have aB := m2.out; obtain ⟨w3, w4, w5⟩ := cc3_ b1.out; obtain ⟨w6, w7, w8⟩ := cf3_ b1.out; obtain ⟨i5, i3, S7⟩ := Kd.R_slice m6.out; subst S7))
    (try simp only [Act.put, List.setIfInBounds_toArray, List.set_cons_zero, List.set_cons_succ])
    go_cut [49] (fun v49 wc => ∃ (kq : Nat) (w9 : Bool), v49 = .bool w9 ∧ ybc (laws_FnOpEach.j1 kq G8 w9 k0 k2 g0 g6 i6 i7 j3 j4 f1 f5 f9 m4 j7 j8 g1 = some r) ∧ ybc (kq ≤ kj2) ∧ ybc (Kd.Q k36 36 wc w.heap.size (fun k_ => some k_ ≠ ((.slice i2 g1.length h9) : Value).ownBlock ∧ some k_ ≠ ((.slice i5 g7.length i3) : Value).ownBlock ∧ k_ ≠ e1) (.slice i1 g0.length h4) g0) ∧ ybc (Kd.Q k36 36 wc w.heap.size (fun k_ => some k_ ≠ ((.slice i1 g0.length h4) : Value).ownBlock ∧ some k_ ≠ ((.slice i5 g7.length i3) : Value).ownBlock ∧ k_ ≠ e1) (.slice i2 g1.length h9) g1) ∧ ybc (Kd.Q k36 36 wc w.heap.size (fun k_ => some k_ ≠ ((.slice i1 g0.length h4) : Value).ownBlock ∧ some k_ ≠ ((.slice i2 g1.length h9) : Value).ownBlock ∧ k_ ≠ e1) (.slice i5 g7.length i3) g7) ∧ ybc (wc.heap[h3]? = some (.cells #[.int .i64 k0, .int .i64 k2, (.slice i1 g0.length h4)] 25 (0, 0))) ∧ ybc (wc.heap[f2]? = some (.cells #[.int .i64 g6, .int .i64 i6, .int .i64 i7, .int .i64 j3, .int .i64 j4] 27 (0, 0))) ∧ ybc (wc.heap[e1]? = some (.cells #[.int .i64 f1, .int .i64 f5, .int .i64 f9, .int .i64 m4] 36 (0, 0))) ∧ ybc (wc.heap[f7]? = some (.cells #[.int .i64 j7, .int .i64 j8, (.slice i2 g1.length h9)] 25 (0, 0))) ∧ ybc (wc.heap[e3]? = some (.cells #[.int .i64 l2, .int .i64 l6, (.slice i5 g7.length i3)] 25 (0, 0))) ∧ ybc (Below w.heap.size w wc))
    case first =>
     have H := HC10.out; clear HC10; replace H := Option.bind_eq_some_iff.mp H; obtain ⟨S8, P2, H⟩ := H; (try dsimp only at H); have A42 := yaa P2; clear P2
     by_cases c43 : S8 = true
     ·
      subst c43
      rw [if_pos rfl] at H
      have H' := yaa H; clear H; have aC := n7.out; have aD := m5.out; have aE := l9.out; have aF := k5.out; have aG := k6.out; have aH := i8.out; have aI := m2.out; have aJ := n9.out; obtain ⟨x2, x3, x4⟩ := cc3_ b0.out; obtain ⟨x5, x6, x7⟩ := cf3_ b0.out; have aK := n8.out; have aL := m0.out; have aM := m1.out; have aN := j9.out; have aO := k7.out; have aP := i9.out; obtain ⟨x8, z2, z3⟩ := cc3_ b1.out; obtain ⟨z4, z5, z6⟩ := cf3_ b1.out
      go_wp2_with (first | ((with_reducible refine gate_callee (f := 13) rfl ?_); refine gl_ (some 43) rfl Try.func13 #[.agg #[.int .i64 j7, .int .i64 j8, .slice i2 g1.length h9], .agg #[.int .i64 l2, .int .i64 l6, .slice i5 g7.length i3]] ?_; (with_reducible refine (laws_eaRas.calls kj2 j7 j8 _ _ g1 l2 l6 _ _ g7 true _ ?side1 ?side2 ?side3 ?side4 A42.out).mono ?_); (case side1 => refine (yaw (e := 36) (base := w.heap.size) (ok := fun k_ => (((True ∧ some k_ ≠ (.slice i1 g0.length h4 : Value).ownBlock) ∧ k_ ≠ e1) ∧ some k_ ≠ (.slice i5 g7.length i3 : Value).ownBlock)) (n := g1.length) (c := h9) ?_).2.2; exact (by (with_reducible repeat (first | apply yai | apply yaj | apply yak)); exact (yao (yau (p := ⟨e3, 2, none⟩) (yau (p := ⟨e3, 1, none⟩) (yau (p := ⟨e3, 0, none⟩) (Kd.R_types k9.out b1.out (by decide)) (fun _ hk => hk.2) (.int .i64 l2)) (fun _ hk => hk.2) (.int .i64 l6)) (fun _ hk => hk.2) (.slice i5 g7.length i3)) (fun _ h_ => h_.1)))); (case side2 => exact (yaw k9.out).2.1); (case side3 => refine (yaw (e := 36) (base := w.heap.size) (ok := fun k_ => (((True ∧ some k_ ≠ (.slice i1 g0.length h4 : Value).ownBlock) ∧ some k_ ≠ (.slice i2 g1.length h9 : Value).ownBlock) ∧ k_ ≠ e1)) (n := g7.length) (c := i3) ?_).2.2; exact (by (with_reducible repeat (first | apply yai | apply yaj | apply yak)); exact (yao (yau (p := ⟨e3, 2, none⟩) (yau (p := ⟨e3, 1, none⟩) (yau (p := ⟨e3, 0, none⟩) (Kd.R_types m6.out b1.out (by decide)) (fun _ hk => hk.2) (.int .i64 l2)) (fun _ hk => hk.2) (.int .i64 l6)) (fun _ hk => hk.2) (.slice i5 g7.length i3)) (fun _ h_ => h_.1)))); (case side4 => exact (yaw m6.out).2.1); rintro e w53 ⟨rfl, hb⟩; refine ⟨_, rfl, ?_⟩; replace i4 := yaa (yaf (by (with_reducible repeat (first | apply yba | apply ybb | apply yaz)); exact (yay (yah (p := ⟨e3, 2, none⟩) (yah (p := ⟨e3, 1, none⟩) (yah (p := ⟨e3, 0, none⟩) (yab i4.out b1.out (by decide)) (fun _ hk => hk.2) (.int .i64 l2)) (fun _ hk => hk.2) (.int .i64 l6)) (fun _ hk => hk.2) (.slice i5 g7.length i3)) (fun _ h_ => h_.1))) hb); replace k9 := yaa (yan (by (with_reducible repeat (first | apply yai | apply yaj | apply yak)); exact (yao (yau (p := ⟨e3, 2, none⟩) (yau (p := ⟨e3, 1, none⟩) (yau (p := ⟨e3, 0, none⟩) (Kd.R_types k9.out b1.out (by decide)) (fun _ hk => hk.2) (.int .i64 l2)) (fun _ hk => hk.2) (.int .i64 l6)) (fun _ hk => hk.2) (.slice i5 g7.length i3)) (fun _ h_ => h_.1))) hb); replace m6 := yaa (yan (by (with_reducible repeat (first | apply yai | apply yaj | apply yak)); exact (yao (yau (p := ⟨e3, 2, none⟩) (yau (p := ⟨e3, 1, none⟩) (yau (p := ⟨e3, 0, none⟩) (Kd.R_types m6.out b1.out (by decide)) (fun _ hk => hk.2) (.int .i64 l2)) (fun _ hk => hk.2) (.int .i64 l6)) (fun _ hk => hk.2) (.slice i5 g7.length i3)) (fun _ h_ => h_.1))) hb); replace a9 := yaa (yae (g := h3) (o := .cells #[.int .i64 k0, .int .i64 k2, .slice i1 g0.length h4] 25 (0, 0)) (by repeat (with_reducible first | exact a9.out | refine oneB ?_ | refine yat ?_ m0.out _)) hb); replace a5 := yaa (yae (g := f2) (o := .cells #[.int .i64 g6, .int .i64 i6, .int .i64 i7, .int .i64 j3, .int .i64 j4] 27 (0, 0)) (by repeat (with_reducible first | exact a5.out | refine oneB ?_ | refine yat ?_ j9.out _)) hb); replace b4 := yaa (yae (g := e1) (o := .cells #[.int .i64 f1, .int .i64 f5, .int .i64 f9, .int .i64 m4] 36 (0, 0)) (by repeat (with_reducible first | exact b4.out | refine oneB ?_ | refine yat ?_ i9.out _)) hb); replace b0 := yaa (yae (g := f7) (o := .cells #[.int .i64 j7, .int .i64 j8, .slice i2 g1.length h9] 25 (0, 0)) (by repeat (with_reducible first | exact b0.out | refine oneB ?_ | refine yat ?_ m2.out _)) hb); replace b1 := yaa (yae (g := e3) (o := .cells #[.int .i64 l2, .int .i64 l6, .slice i5 g7.length i3] 25 (0, 0)) (by (repeat refine oneB ?_); refine yas (cs := #[.int .i64 l2, .int .i64 l6, .slice none 0 0]) ?_ 2 _ rfl; refine yas (cs := #[.int .i64 l2, .int .i64 0, .slice none 0 0]) ?_ 1 _ rfl; refine yas (cs := #[.int .i64 0, .int .i64 0, .slice none 0 0]) ?_ 0 _ rfl; exact upB b1.out) hb); replace HB := yaa (yal (by repeat (with_reducible first | exact HB.out | refine oneH ?_ | refine yag ?_ (Aside0.out ‹_›))) hb); (try clear hb); (try clear hb2); (try clear hk); (try clear hi)))
      go_meet
      case rel => exact ⟨_, ((G8 != O6)), (by first | rfl | (simp; done) | (simp [*]; done)), H', ⟨by have := HJ2.out; first | omega | exact Nat.le_refl _⟩, ⟨by (with_reducible repeat (first | apply yba | apply ybb | apply yaz)); exact yay i4.out (fun _ hk => ⟨hk.1.2, ⟨hk.2, hk.1.1.2⟩⟩)⟩, ⟨Kd.Q_of_R (by (with_reducible repeat (first | apply yai | apply yaj | apply yak)); exact yao k9.out (fun _ hk => by grind))⟩, ⟨Kd.Q_of_R (by (with_reducible repeat (first | apply yai | apply yaj | apply yak)); exact yao m6.out (fun _ hk => by grind))⟩, ⟨by exact upB a9.out⟩, ⟨by exact upB a5.out⟩, ⟨by exact upB b4.out⟩, ⟨by exact upB b0.out⟩, ⟨by exact upB b1.out⟩, ⟨by repeat (with_reducible first | exact HB.out | refine oneH ?_ | refine yag ?_ (Aside0.out ‹_›))⟩⟩
     ·
      replace c43 := Bool.eq_false_iff.mpr c43
      subst c43
      rw [if_neg (show ¬ (false = true) by decide)] at H
      have H' := yaa H; clear H; have aQ := n7.out; have aR := m5.out; have aS := l9.out; have aT := k5.out; have aU := k6.out; have aV := i8.out; have aW := m2.out; have aX := n9.out; obtain ⟨z7, z8, z9⟩ := cc3_ b0.out; obtain ⟨A2, A3, A4⟩ := cf3_ b0.out; have aY := n8.out; have aZ := m0.out; have bA := m1.out; have bB := j9.out; have bC := k7.out; have bD := i9.out; obtain ⟨A5, B0, B1⟩ := cc3_ b1.out; obtain ⟨B2, B3, B4⟩ := cf3_ b1.out
      go_wp2_with (first | ((with_reducible refine gate_callee (f := 13) rfl ?_); refine gl_ (some 43) rfl Try.func13 #[.agg #[.int .i64 j7, .int .i64 j8, .slice i2 g1.length h9], .agg #[.int .i64 l2, .int .i64 l6, .slice i5 g7.length i3]] ?_; (with_reducible refine (laws_eaRas.calls kj2 j7 j8 _ _ g1 l2 l6 _ _ g7 false _ ?side1 ?side2 ?side3 ?side4 A42.out).mono ?_); (case side1 => refine (yaw (e := 36) (base := w.heap.size) (ok := fun k_ => (((True ∧ some k_ ≠ (.slice i1 g0.length h4 : Value).ownBlock) ∧ k_ ≠ e1) ∧ some k_ ≠ (.slice i5 g7.length i3 : Value).ownBlock)) (n := g1.length) (c := h9) ?_).2.2; exact (by (with_reducible repeat (first | apply yai | apply yaj | apply yak)); exact (yao (yau (p := ⟨e3, 2, none⟩) (yau (p := ⟨e3, 1, none⟩) (yau (p := ⟨e3, 0, none⟩) (Kd.R_types k9.out b1.out (by decide)) (fun _ hk => hk.2) (.int .i64 l2)) (fun _ hk => hk.2) (.int .i64 l6)) (fun _ hk => hk.2) (.slice i5 g7.length i3)) (fun _ h_ => h_.1)))); (case side2 => exact (yaw k9.out).2.1); (case side3 => refine (yaw (e := 36) (base := w.heap.size) (ok := fun k_ => (((True ∧ some k_ ≠ (.slice i1 g0.length h4 : Value).ownBlock) ∧ some k_ ≠ (.slice i2 g1.length h9 : Value).ownBlock) ∧ k_ ≠ e1)) (n := g7.length) (c := i3) ?_).2.2; exact (by (with_reducible repeat (first | apply yai | apply yaj | apply yak)); exact (yao (yau (p := ⟨e3, 2, none⟩) (yau (p := ⟨e3, 1, none⟩) (yau (p := ⟨e3, 0, none⟩) (Kd.R_types m6.out b1.out (by decide)) (fun _ hk => hk.2) (.int .i64 l2)) (fun _ hk => hk.2) (.int .i64 l6)) (fun _ hk => hk.2) (.slice i5 g7.length i3)) (fun _ h_ => h_.1)))); (case side4 => exact (yaw m6.out).2.1); rintro e w63 ⟨rfl, hb⟩; refine ⟨_, rfl, ?_⟩; replace i4 := yaa (yaf (by (with_reducible repeat (first | apply yba | apply ybb | apply yaz)); exact (yay (yah (p := ⟨e3, 2, none⟩) (yah (p := ⟨e3, 1, none⟩) (yah (p := ⟨e3, 0, none⟩) (yab i4.out b1.out (by decide)) (fun _ hk => hk.2) (.int .i64 l2)) (fun _ hk => hk.2) (.int .i64 l6)) (fun _ hk => hk.2) (.slice i5 g7.length i3)) (fun _ h_ => h_.1))) hb); replace k9 := yaa (yan (by (with_reducible repeat (first | apply yai | apply yaj | apply yak)); exact (yao (yau (p := ⟨e3, 2, none⟩) (yau (p := ⟨e3, 1, none⟩) (yau (p := ⟨e3, 0, none⟩) (Kd.R_types k9.out b1.out (by decide)) (fun _ hk => hk.2) (.int .i64 l2)) (fun _ hk => hk.2) (.int .i64 l6)) (fun _ hk => hk.2) (.slice i5 g7.length i3)) (fun _ h_ => h_.1))) hb); replace m6 := yaa (yan (by (with_reducible repeat (first | apply yai | apply yaj | apply yak)); exact (yao (yau (p := ⟨e3, 2, none⟩) (yau (p := ⟨e3, 1, none⟩) (yau (p := ⟨e3, 0, none⟩) (Kd.R_types m6.out b1.out (by decide)) (fun _ hk => hk.2) (.int .i64 l2)) (fun _ hk => hk.2) (.int .i64 l6)) (fun _ hk => hk.2) (.slice i5 g7.length i3)) (fun _ h_ => h_.1))) hb); replace a9 := yaa (yae (g := h3) (o := .cells #[.int .i64 k0, .int .i64 k2, .slice i1 g0.length h4] 25 (0, 0)) (by repeat (with_reducible first | exact a9.out | refine oneB ?_ | refine yat ?_ m0.out _)) hb); replace a5 := yaa (yae (g := f2) (o := .cells #[.int .i64 g6, .int .i64 i6, .int .i64 i7, .int .i64 j3, .int .i64 j4] 27 (0, 0)) (by repeat (with_reducible first | exact a5.out | refine oneB ?_ | refine yat ?_ j9.out _)) hb); replace b4 := yaa (yae (g := e1) (o := .cells #[.int .i64 f1, .int .i64 f5, .int .i64 f9, .int .i64 m4] 36 (0, 0)) (by repeat (with_reducible first | exact b4.out | refine oneB ?_ | refine yat ?_ i9.out _)) hb); replace b0 := yaa (yae (g := f7) (o := .cells #[.int .i64 j7, .int .i64 j8, .slice i2 g1.length h9] 25 (0, 0)) (by repeat (with_reducible first | exact b0.out | refine oneB ?_ | refine yat ?_ m2.out _)) hb); replace b1 := yaa (yae (g := e3) (o := .cells #[.int .i64 l2, .int .i64 l6, .slice i5 g7.length i3] 25 (0, 0)) (by (repeat refine oneB ?_); refine yas (cs := #[.int .i64 l2, .int .i64 l6, .slice none 0 0]) ?_ 2 _ rfl; refine yas (cs := #[.int .i64 l2, .int .i64 0, .slice none 0 0]) ?_ 1 _ rfl; refine yas (cs := #[.int .i64 0, .int .i64 0, .slice none 0 0]) ?_ 0 _ rfl; exact upB b1.out) hb); replace HB := yaa (yal (by repeat (with_reducible first | exact HB.out | refine oneH ?_ | refine yag ?_ (Aside0.out ‹_›))) hb); (try clear hb); (try clear hb2); (try clear hk); (try clear hi)))
      go_meet
      case rel => exact ⟨_, (true), (by first | rfl | (simp; done) | (simp [*]; done)), H', ⟨by have := HJ2.out; first | omega | exact Nat.le_refl _⟩, ⟨by (with_reducible repeat (first | apply yba | apply ybb | apply yaz)); exact yay i4.out (fun _ hk => ⟨hk.1.2, ⟨hk.2, hk.1.1.2⟩⟩)⟩, ⟨Kd.Q_of_R (by (with_reducible repeat (first | apply yai | apply yaj | apply yak)); exact yao k9.out (fun _ hk => by grind))⟩, ⟨Kd.Q_of_R (by (with_reducible repeat (first | apply yai | apply yaj | apply yak)); exact yao m6.out (fun _ hk => by grind))⟩, ⟨by exact upB a9.out⟩, ⟨by exact upB a5.out⟩, ⟨by exact upB b4.out⟩, ⟨by exact upB b0.out⟩, ⟨by exact upB b1.out⟩, ⟨by repeat (with_reducible first | exact HB.out | refine oneH ?_ | refine yag ?_ (Aside0.out ‹_›))⟩⟩
    case rest =>
     clear HC10; (try clear c1); (try clear c2); (try clear p2); (try clear c3); (try clear c4); (try clear p5); (try clear G7); (try clear c5); (try clear c6); (try clear c10); (try clear c11); (try clear c12); (try clear c13); (try clear c14); (try clear c18); (try clear c20); (try clear c21); (try clear c27); (try clear c28); (try clear c29); (try clear c36); (try clear c37); (try clear c38); (try clear c39); (try clear c43); (try clear c44); (try clear c45); (try clear c46); (try clear c47); (try clear c49); (try clear c50); (try clear c51); (try clear c54); (try clear c55); (try clear c56); (try clear c57); (try clear c59); (try clear c60); (try clear c61); (try clear p8); (try clear p9); (try clear q0); (try clear q4); (try clear q5); (try clear q6); (try clear q7); (try clear q8); (try clear r4); (try clear r5); (try clear r6); (try clear r7); (try clear s2); (try clear s3); (try clear s4); (try clear s8); (try clear s9); (try clear t0); (try clear t1); (try clear t2); (try clear t8); (try clear t9); (try clear u0); (try clear u4); (try clear u5); (try clear u6); (try clear v1); (try clear v2); (try clear v3); (try clear v4); (try clear v5); (try clear w3); (try clear w4); (try clear w5); (try clear x2); (try clear x3); (try clear x4); (try clear x8); (try clear z2); (try clear z3); (try clear z7); (try clear z8); (try clear z9); (try clear A5); (try clear B0); (try clear B1); (try clear q1); (try clear q2); (try clear q3); (try clear q9); (try clear r0); (try clear r1); (try clear r2); (try clear r3); (try clear r8); (try clear r9); (try clear s0); (try clear s1); (try clear s5); (try clear s6); (try clear s7); (try clear t3); (try clear t4); (try clear t5); (try clear t6); (try clear t7); (try clear u1); (try clear u2); (try clear u3); (try clear u7); (try clear u9); (try clear v0); (try clear v6); (try clear v7); (try clear v8); (try clear v9); (try clear w2); (try clear w6); (try clear w7); (try clear w8); (try clear x5); (try clear x6); (try clear x7); (try clear z4); (try clear z5); (try clear z6); (try clear A2); (try clear A3); (try clear A4); (try clear B2); (try clear B3); (try clear B4); (try clear p2); obtain ⟨kq, w9, rfl, HA, HJ9, a2, a3, a4, a9, a5, b4, b0, b1, HB⟩ := hcut
     cases kq with
     | zero => exact absurd HA.out (by simp [laws_FnOpEach.j1])
     | succ kj9 =>
      have H := HA.out; clear HA
      simp only [laws_FnOpEach.j1] at H
      by_cases c64 : w9 = true
      ·
       subst c64
       rw [if_pos rfl] at H
       rw [hrt] at H
       exact absurd H (by simp)
      ·
       replace c64 := Bool.eq_false_iff.mpr c64
       subst c64
       rw [if_neg (show ¬ (false = true) by decide)] at H
       have HC65 := yaa H; clear H
       go_upto_region 9 with (fail)
       go_cut [71] (fun v71 wc => ∃ (kq : Nat) (p1 : Bool), v71 = .bool p1 ∧ ybc (laws_FnOpEach.j2 kq p1 k0 k2 g0 g6 i6 i7 j3 j4 f1 f5 f9 m4 j7 j8 g1 = some r) ∧ ybc (kq ≤ kj9) ∧ ybc (Kd.Q k36 36 wc w.heap.size (fun k_ => some k_ ≠ ((.slice i2 g1.length h9) : Value).ownBlock ∧ some k_ ≠ ((.slice i5 g7.length i3) : Value).ownBlock ∧ k_ ≠ e1) (.slice i1 g0.length h4) g0) ∧ ybc (Kd.Q k36 36 wc w.heap.size (fun k_ => some k_ ≠ ((.slice i1 g0.length h4) : Value).ownBlock ∧ some k_ ≠ ((.slice i5 g7.length i3) : Value).ownBlock ∧ k_ ≠ e1) (.slice i2 g1.length h9) g1) ∧ ybc (Kd.Q k36 36 wc w.heap.size (fun k_ => some k_ ≠ ((.slice i1 g0.length h4) : Value).ownBlock ∧ some k_ ≠ ((.slice i2 g1.length h9) : Value).ownBlock ∧ k_ ≠ e1) (.slice i5 g7.length i3) g7) ∧ ybc (wc.heap[h3]? = some (.cells #[.int .i64 k0, .int .i64 k2, (.slice i1 g0.length h4)] 25 (0, 0))) ∧ ybc (wc.heap[f2]? = some (.cells #[.int .i64 g6, .int .i64 i6, .int .i64 i7, .int .i64 j3, .int .i64 j4] 27 (0, 0))) ∧ ybc (wc.heap[e1]? = some (.cells #[.int .i64 f1, .int .i64 f5, .int .i64 f9, .int .i64 m4] 36 (0, 0))) ∧ ybc (wc.heap[f7]? = some (.cells #[.int .i64 j7, .int .i64 j8, (.slice i2 g1.length h9)] 25 (0, 0))) ∧ ybc (wc.heap[e3]? = some (.cells #[.int .i64 l2, .int .i64 l6, (.slice i5 g7.length i3)] 25 (0, 0))) ∧ ybc (Below w.heap.size w wc))
       case first =>
        have H := HC65.out; clear HC65
        by_cases c66 : G8 = true
        ·
         subst c66
         rw [if_pos rfl] at H
         replace H := Option.bind_eq_some_iff.mp H; obtain ⟨S9, P3, H⟩ := H; (try dsimp only at H); have A67 := yaa P3; clear P3
         by_cases c68 : S9 = true
         ·
          subst c68
          rw [if_pos rfl] at H
          by_cases c69 : g6 = 5
          ·
           rw [if_pos c69] at H
           have o9 : (g6 == 5) = true := beq_iff_eq.mpr c69; have L9 : (g6 != 5) = false := bne_eq_false_iff_eq.mpr c69; clear c69
           (first | rw [o9] | (simp only [i64_w, i32_w]; rw [o9]) | skip)
           have H' := yaa H; clear H; have bE := l7.out; have bF := k3.out; have bG := l8.out; have bH := k4.out; have bI := i8.out; have bJ := k6.out; have bK := i9.out; have bL := k7.out; obtain ⟨G9, H0, H1, H2⟩ := cc4_ b4.out; obtain ⟨H3, H4, H5, H6⟩ := cf4_ b4.out
           go_wp2_with (first | (go_at_call 19; (with_reducible refine (spec_PixOk.calls f1 f5 f9 m4 true _ A67.out).mono ?_); rintro e w75 ⟨rfl, hb⟩; replace a2 := yaa (yaf (upQ a2.out) hb); replace a3 := yaa (yaf (upQ a3.out) hb); replace a4 := yaa (yaf (upQ a4.out) hb); replace a9 := yaa (yae (upB a9.out) hb); replace a5 := yaa (yae (upB a5.out) hb); replace b4 := yaa (yae (upB b4.out) hb); replace b0 := yaa (yae (upB b0.out) hb); replace b1 := yaa (yae (upB b1.out) hb); replace HB := yaa (yal (by repeat (with_reducible first | exact HB.out | refine oneH ?_ | refine yag ?_ (Aside0.out ‹_›))) hb); (try clear hb); (try clear hb2); (try clear hk); (try clear hi); have bM := l3.out; have bN := j6.out; have bO := k5.out; have bP := l9.out; have bQ := j9.out; have bR := m1.out; obtain ⟨H7, H8, H9, I0, I1⟩ := cc5_ a5.out; obtain ⟨I2, I3, I4, I5⟩ := cf4_ a5.out; have I6 := blk_frozen a5.out 4))
           go_meet
           case rel => exact ⟨_, (true), (by first | rfl | (simp; done) | (simp [*]; done)), H', ⟨by have := HJ2.out; have := HJ9.out; first | omega | exact Nat.le_refl _⟩, ⟨by first | exact a2.out | exact upQ a2.out⟩, ⟨by first | exact a3.out | exact upQ a3.out⟩, ⟨by first | exact a4.out | exact upQ a4.out⟩, ⟨by exact upB a9.out⟩, ⟨by exact upB a5.out⟩, ⟨by exact upB b4.out⟩, ⟨by exact upB b0.out⟩, ⟨by exact upB b1.out⟩, ⟨by repeat (with_reducible first | exact HB.out | refine oneH ?_ | refine yag ?_ (Aside0.out ‹_›))⟩⟩
          ·
           rw [if_neg c69] at H
           have o9 : (g6 == 5) = false := beq_eq_false_iff_ne.mpr c69; have L9 : (g6 != 5) = true := bne_iff_ne.mpr c69
           (first | rw [o9] | (simp only [i64_w, i32_w]; rw [o9]) | skip)
           by_cases c80 : g6 = 6
           ·
            rw [if_pos c80] at H
            have M0 : (g6 == 6) = true := beq_iff_eq.mpr c80; have M1 : (g6 != 6) = false := bne_eq_false_iff_eq.mpr c80; clear c80; have H' := yaa H; clear H; have bS := l7.out; have bT := k3.out; have bU := l8.out; have bV := k4.out; have bW := i8.out; have bX := k6.out; have bY := i9.out; have bZ := k7.out; obtain ⟨I7, I8, I9, J0⟩ := cc4_ b4.out; obtain ⟨J1, J2, J3, J4⟩ := cf4_ b4.out
            go_wp2_with (first | (go_at_call 19; (with_reducible refine (spec_PixOk.calls f1 f5 f9 m4 true _ A67.out).mono ?_); rintro e w86 ⟨rfl, hb⟩; replace a2 := yaa (yaf (upQ a2.out) hb); replace a3 := yaa (yaf (upQ a3.out) hb); replace a4 := yaa (yaf (upQ a4.out) hb); replace a9 := yaa (yae (upB a9.out) hb); replace a5 := yaa (yae (upB a5.out) hb); replace b4 := yaa (yae (upB b4.out) hb); replace b0 := yaa (yae (upB b0.out) hb); replace b1 := yaa (yae (upB b1.out) hb); replace HB := yaa (yal (by repeat (with_reducible first | exact HB.out | refine oneH ?_ | refine yag ?_ (Aside0.out ‹_›))) hb); (try clear hb); (try clear hb2); (try clear hk); (try clear hi); have cA := l3.out; have cB := j6.out; have cC := k5.out; have cD := l9.out; have cE := j9.out; have cF := m1.out; obtain ⟨J5, J6, J7, J8, J9⟩ := cc5_ a5.out; obtain ⟨K0, K1, K2, K3⟩ := cf4_ a5.out; have K4 := blk_frozen a5.out 4))
            go_meet
            case rel => exact ⟨_, (true), (by first | rfl | (simp; done) | (simp [*]; done)), H', ⟨by have := HJ2.out; have := HJ9.out; first | omega | exact Nat.le_refl _⟩, ⟨by first | exact a2.out | exact upQ a2.out⟩, ⟨by first | exact a3.out | exact upQ a3.out⟩, ⟨by first | exact a4.out | exact upQ a4.out⟩, ⟨by exact upB a9.out⟩, ⟨by exact upB a5.out⟩, ⟨by exact upB b4.out⟩, ⟨by exact upB b0.out⟩, ⟨by exact upB b1.out⟩, ⟨by repeat (with_reducible first | exact HB.out | refine oneH ?_ | refine yag ?_ (Aside0.out ‹_›))⟩⟩
           ·
            rw [if_neg c80] at H
            have M0 : (g6 == 6) = false := beq_eq_false_iff_ne.mpr c80; have M1 : (g6 != 6) = true := bne_iff_ne.mpr c80; have H' := yaa H; clear H; have cG := l7.out; have cH := k3.out; have cI := l8.out; have cJ := k4.out; have cK := i8.out; have cL := k6.out; have cM := i9.out; have cN := k7.out; obtain ⟨K5, K6, K7, K8⟩ := cc4_ b4.out; obtain ⟨K9, L0, L1, L2⟩ := cf4_ b4.out
            go_wp2_with (first | (go_at_call 19; (with_reducible refine (spec_PixOk.calls f1 f5 f9 m4 true _ A67.out).mono ?_); rintro e w96 ⟨rfl, hb⟩; replace a2 := yaa (yaf (upQ a2.out) hb); replace a3 := yaa (yaf (upQ a3.out) hb); replace a4 := yaa (yaf (upQ a4.out) hb); replace a9 := yaa (yae (upB a9.out) hb); replace a5 := yaa (yae (upB a5.out) hb); replace b4 := yaa (yae (upB b4.out) hb); replace b0 := yaa (yae (upB b0.out) hb); replace b1 := yaa (yae (upB b1.out) hb); replace HB := yaa (yal (by repeat (with_reducible first | exact HB.out | refine oneH ?_ | refine yag ?_ (Aside0.out ‹_›))) hb); (try clear hb); (try clear hb2); (try clear hk); (try clear hi); have cO := l3.out; have cP := j6.out; have cQ := k5.out; have cR := l9.out; have cS := j9.out; have cT := m1.out; obtain ⟨C9, D0, D1, D2, D3⟩ := cc5_ a5.out; obtain ⟨D4, D5, D6, D7⟩ := cf4_ a5.out; have D8 := blk_frozen a5.out 4))
            go_meet
            case rel => exact ⟨_, ((g6 == 8)), (by first | rfl | (simp; done) | (simp [*]; done)), H', ⟨by have := HJ2.out; have := HJ9.out; first | omega | exact Nat.le_refl _⟩, ⟨by first | exact a2.out | exact upQ a2.out⟩, ⟨by first | exact a3.out | exact upQ a3.out⟩, ⟨by first | exact a4.out | exact upQ a4.out⟩, ⟨by exact upB a9.out⟩, ⟨by exact upB a5.out⟩, ⟨by exact upB b4.out⟩, ⟨by exact upB b0.out⟩, ⟨by exact upB b1.out⟩, ⟨by repeat (with_reducible first | exact HB.out | refine oneH ?_ | refine yag ?_ (Aside0.out ‹_›))⟩⟩
         ·
          replace c68 := Bool.eq_false_iff.mpr c68
          subst c68
          rw [if_neg (show ¬ (false = true) by decide)] at H
          have H' := yaa H; clear H; have T0 := l7.out; have T1 := k3.out; have T2 := l8.out; have T3 := k4.out; have T4 := i8.out; have T5 := k6.out; have T6 := i9.out; have T7 := k7.out; obtain ⟨D9, E0, E1, E2⟩ := cc4_ b4.out; obtain ⟨E3, E4, E5, E6⟩ := cf4_ b4.out
          go_wp2_with (first | (go_at_call 19; (with_reducible refine (spec_PixOk.calls f1 f5 f9 m4 false _ A67.out).mono ?_); rintro e w106 ⟨rfl, hb⟩; replace a2 := yaa (yaf (upQ a2.out) hb); replace a3 := yaa (yaf (upQ a3.out) hb); replace a4 := yaa (yaf (upQ a4.out) hb); replace a9 := yaa (yae (upB a9.out) hb); replace a5 := yaa (yae (upB a5.out) hb); replace b4 := yaa (yae (upB b4.out) hb); replace b0 := yaa (yae (upB b0.out) hb); replace b1 := yaa (yae (upB b1.out) hb); replace HB := yaa (yal (by repeat (with_reducible first | exact HB.out | refine oneH ?_ | refine yag ?_ (Aside0.out ‹_›))) hb); (try clear hb); (try clear hb2); (try clear hk); (try clear hi)))
          go_meet
          case rel => exact ⟨_, (true), (by first | rfl | (simp; done) | (simp [*]; done)), H', ⟨by have := HJ2.out; have := HJ9.out; first | omega | exact Nat.le_refl _⟩, ⟨by first | exact a2.out | exact upQ a2.out⟩, ⟨by first | exact a3.out | exact upQ a3.out⟩, ⟨by first | exact a4.out | exact upQ a4.out⟩, ⟨by exact upB a9.out⟩, ⟨by exact upB a5.out⟩, ⟨by exact upB b4.out⟩, ⟨by exact upB b0.out⟩, ⟨by exact upB b1.out⟩, ⟨by repeat (with_reducible first | exact HB.out | refine oneH ?_ | refine yag ?_ (Aside0.out ‹_›))⟩⟩
        ·
         replace c66 := Bool.eq_false_iff.mpr c66
         subst c66
         rw [if_neg (show ¬ (false = true) by decide)] at H
         have H' := yaa H; clear H
         go_wp2
         go_meet
         case rel => exact ⟨_, (true), (by first | rfl | (simp; done) | (simp [*]; done)), H', ⟨by have := HJ2.out; have := HJ9.out; first | omega | exact Nat.le_refl _⟩, ⟨by first | exact a2.out | exact upQ a2.out⟩, ⟨by first | exact a3.out | exact upQ a3.out⟩, ⟨by first | exact a4.out | exact upQ a4.out⟩, ⟨by exact upB a9.out⟩, ⟨by exact upB a5.out⟩, ⟨by exact upB b4.out⟩, ⟨by exact upB b0.out⟩, ⟨by exact upB b1.out⟩, ⟨by repeat (with_reducible first | exact HB.out | refine oneH ?_ | refine yag ?_ (Aside0.out ‹_›))⟩⟩
       case rest =>
        clear HC65; (try clear c1); (try clear c2); (try clear p2); (try clear c3); (try clear c4); (try clear p5); (try clear G7); (try clear c5); (try clear c6); (try clear c7); (try clear c8); (try clear c9); (try clear c10); (try clear c11); (try clear c12); (try clear c13); (try clear c14); (try clear c18); (try clear c20); (try clear c21); (try clear c27); (try clear c28); (try clear c29); (try clear c36); (try clear c37); (try clear c38); (try clear c39); (try clear c43); (try clear c44); (try clear c45); (try clear c46); (try clear c47); (try clear c49); (try clear c50); (try clear c51); (try clear c54); (try clear c55); (try clear c56); (try clear c57); (try clear c59); (try clear c60); (try clear c61); (try clear c64); (try clear c66); (try clear c68); (try clear c69); (try clear o9); (try clear L9); (try clear c70); (try clear c71); (try clear c72); (try clear c73); (try clear c76); (try clear c77); (try clear c78); (try clear c80); (try clear M0); (try clear M1); (try clear c81); (try clear c82); (try clear c83); (try clear c84); (try clear c87); (try clear c88); (try clear c89); (try clear c91); (try clear c92); (try clear c93); (try clear c94); (try clear c97); (try clear c98); (try clear c99); (try clear c101); (try clear c102); (try clear c103); (try clear c104); (try clear C9); (try clear D0); (try clear D1); (try clear D2); (try clear D3); (try clear D9); (try clear E0); (try clear E1); (try clear E2); (try clear p8); (try clear p9); (try clear q0); (try clear q4); (try clear q5); (try clear q6); (try clear q7); (try clear q8); (try clear r4); (try clear r5); (try clear r6); (try clear r7); (try clear s2); (try clear s3); (try clear s4); (try clear s8); (try clear s9); (try clear t0); (try clear t1); (try clear t2); (try clear t8); (try clear t9); (try clear u0); (try clear u4); (try clear u5); (try clear u6); (try clear v1); (try clear v2); (try clear v3); (try clear v4); (try clear v5); (try clear w3); (try clear w4); (try clear w5); (try clear x2); (try clear x3); (try clear x4); (try clear x8); (try clear z2); (try clear z3); (try clear z7); (try clear z8); (try clear z9); (try clear A5); (try clear B0); (try clear B1); (try clear G9); (try clear H0); (try clear H1); (try clear H2); (try clear H7); (try clear H8); (try clear H9); (try clear I0); (try clear I1); (try clear I7); (try clear I8); (try clear I9); (try clear J0); (try clear J5); (try clear J6); (try clear J7); (try clear J8); (try clear J9); (try clear K5); (try clear K6); (try clear K7); (try clear K8); (try clear D4); (try clear D5); (try clear D6); (try clear D7); (try clear D8); (try clear E3); (try clear E4); (try clear E5); (try clear E6); (try clear q1); (try clear q2); (try clear q3); (try clear q9); (try clear r0); (try clear r1); (try clear r2); (try clear r3); (try clear r8); (try clear r9); (try clear s0); (try clear s1); (try clear s5); (try clear s6); (try clear s7); (try clear t3); (try clear t4); (try clear t5); (try clear t6); (try clear t7); (try clear u1); (try clear u2); (try clear u3); (try clear u7); (try clear u9); (try clear v0); (try clear v6); (try clear v7); (try clear v8); (try clear v9); (try clear w2); (try clear w6); (try clear w7); (try clear w8); (try clear x5); (try clear x6); (try clear x7); (try clear z4); (try clear z5); (try clear z6); (try clear A2); (try clear A3); (try clear A4); (try clear B2); (try clear B3); (try clear B4); (try clear H3); (try clear H4); (try clear H5); (try clear H6); (try clear I2); (try clear I3); (try clear I4); (try clear I5); (try clear I6); (try clear J1); (try clear J2); (try clear J3); (try clear J4); (try clear K0); (try clear K1); (try clear K2); (try clear K3); (try clear K4); (try clear K9); (try clear L0); (try clear L1); (try clear L2); (try clear p2); obtain ⟨kq, p1, rfl, HA, HJ64, a2, a3, a4, a9, a5, b4, b0, b1, HB⟩ := hcut
        cases kq with
        | zero => exact absurd HA.out (by simp [laws_FnOpEach.j2])
        | succ kj64 =>
         have H := HA.out; clear HA
         simp only [laws_FnOpEach.j2] at H
         by_cases L3 : p1 = true
         ·
          subst L3
          rw [if_pos rfl] at H
          replace H := Option.bind_eq_some_iff.mp H; obtain ⟨T8, M2, H⟩ := H; (try dsimp only at H); have T9 := yaa M2; clear M2; obtain rfl := Option.some.inj H
          go_wp2_with (first | ((with_reducible refine gate_callee (f := 14) rfl ?_); refine gl_ (some 72) rfl Try.func14 #[] ?_; (with_reducible refine (laws_eaOk.calls  T8 _ T9.out).mono ?_); rintro e w109 ⟨rfl, hb⟩; refine ⟨_, rfl, ?_⟩; replace a2 := yaa (yaf (upQ a2.out) hb); replace a3 := yaa (yaf (upQ a3.out) hb); replace a4 := yaa (yaf (upQ a4.out) hb); replace a9 := yaa (yae (upB a9.out) hb); replace a5 := yaa (yae (upB a5.out) hb); replace b4 := yaa (yae (upB b4.out) hb); replace b0 := yaa (yae (upB b0.out) hb); replace b1 := yaa (yae (upB b1.out) hb); replace HB := yaa (yal (by repeat (with_reducible first | exact HB.out | refine oneH ?_ | refine yag ?_ (Aside0.out ‹_›))) hb); (try clear hb); (try clear hb2); (try clear hk); (try clear hi)))
          go_ret
          exact ⟨by first | rfl | (simp [*, errW_none, errW_some] <;> rfl), by repeat (with_reducible first | exact HB.out | refine oneH ?_ | refine yag ?_ (Aside0.out ‹_›))⟩
         ·
          replace L3 := Bool.eq_false_iff.mpr L3
          subst L3
          rw [if_neg (show ¬ (false = true) by decide)] at H
          obtain ⟨y137, hy137⟩ : ∃ y_ : List (S27), y_ = (([(⟨5, 0, 0, 0, 0⟩ : S27)] : List (S27))) := ⟨_, rfl⟩
          conv at H => enter [1, 1, 5]; rw [← hy137]
          have Ny137 := yaa hy137; clear hy137; replace H := Option.bind_eq_some_iff.mp H; obtain ⟨⟨E7, E8, B5⟩, M3, H⟩ := H; (try dsimp only at H); have U0 := yaa M3; clear M3; obtain ⟨y145, hy145⟩ : ∃ y_ : List (S27), y_ = (([(⟨5, 0, 0, 0, 0⟩ : S27), (⟨g6, i6, i7, j3, j4⟩ : S27)] : List (S27))) := ⟨_, rfl⟩
          conv at H => enter [1, 1, 5]; rw [← hy145]
          have Ny145 := yaa hy145; clear hy145; replace H := Option.bind_eq_some_iff.mp H; obtain ⟨⟨E9, F0, F1⟩, M4, H⟩ := H; (try dsimp only at H); have U1 := yaa M4; clear M4; replace H := Option.bind_eq_some_iff.mp H; obtain ⟨U2, M5, H⟩ := H; (try dsimp only at H); have U3 := yaa M5; clear M5
          by_cases L4 : U2 = true
          ·
           subst L4
           rw [if_pos rfl] at H
           obtain ⟨y154, hy154⟩ : ∃ y_ : List (S27), y_ = (([(⟨8, f1, f5, f9, 0⟩ : S27)] : List (S27))) := ⟨_, rfl⟩
           conv at H => enter [1, 1, 5]; rw [← hy154]
           have Ny154 := yaa hy154; clear hy154; replace H := Option.bind_eq_some_iff.mp H; obtain ⟨⟨F2, F3, B6⟩, M6, H⟩ := H; (try dsimp only at H); have U4 := yaa M6; clear M6; obtain ⟨y162, hy162⟩ : ∃ y_ : List (S27), y_ = (([(⟨8, f1, f5, f9, 0⟩ : S27), (⟨g6, i6, i7, j3, j4⟩ : S27)] : List (S27))) := ⟨_, rfl⟩
           conv at H => enter [1, 1, 5]; rw [← hy162]
           have Ny162 := yaa hy162; clear hy162; replace H := Option.bind_eq_some_iff.mp H; obtain ⟨⟨F4, F5, F6⟩, M7, H⟩ := H; (try dsimp only at H); have U5 := yaa M7; clear M7; replace H := Option.bind_eq_some_iff.mp H; obtain ⟨o8, M8, H⟩ := H; (try dsimp only at H); have U6 := yaa M8; clear M8; obtain rfl := Option.some.inj H
           try go_wp2_with (first | ((with_reducible refine gate_dst (N := 12) rfl ?_); (try (refine gate_guard (by rfl) ?_; dsimp only)); refine bx_ 12 #[.int .i64 0, .int .i64 0, .int .i64 0, .int .i64 0, .int .i64 0] 27 ?_; intro e9 hg w117 hbox hb; replace a2 := yaa (yaf (upQ a2.out) hb); replace a3 := yaa (yaf (upQ a3.out) hb); replace a4 := yaa (yaf (upQ a4.out) hb); have b2 := yaa (hbox); have P4 := yaa ((by rw [hg]; exact (yax (by repeat (with_reducible first | exact HB.out | refine oneH ?_ | refine yag ?_ (Aside0.out ‹_›)))) : w.heap.size ≤ e9)); replace HB := yaa (yal (by repeat (with_reducible first | exact HB.out | refine oneH ?_ | refine yag ?_ (Aside0.out ‹_›))) hb); have cU := P4; have n0 := yaa ((by rw [hg]; exact Nat.ne_of_lt (blk_lt (upB a9.out)) : h3 ≠ e9)); replace a9 := yaa (yae (upB a9.out) hb); have B7 := yaa n0.out.symm; have n1 := yaa ((by rw [hg]; exact Nat.ne_of_lt (blk_lt (upB a5.out)) : f2 ≠ e9)); replace a5 := yaa (yae (upB a5.out) hb); have B8 := yaa n1.out.symm; have n2 := yaa ((by rw [hg]; exact Nat.ne_of_lt (blk_lt (upB b4.out)) : e1 ≠ e9)); replace b4 := yaa (yae (upB b4.out) hb); have B9 := yaa n2.out.symm; have n3 := yaa ((by rw [hg]; exact Nat.ne_of_lt (blk_lt (upB b0.out)) : f7 ≠ e9)); replace b0 := yaa (yae (upB b0.out) hb); have C0 := yaa n3.out.symm; have n4 := yaa ((by rw [hg]; exact Nat.ne_of_lt (blk_lt (upB b1.out)) : e3 ≠ e9)); replace b1 := yaa (yae (upB b1.out) hb); have C1 := yaa n4.out.symm; clear hb hbox hg; have U7 := B7.out; have U8 := n0.out; have U9 := B8.out; have V0 := n1.out; have V1 := B9.out; have V2 := n2.out; have V3 := C0.out; have V4 := n3.out; have V5 := C1.out; have V6 := n4.out; obtain ⟨P5, P6, P7, P8, P9⟩ := cc5_ b2.out; obtain ⟨Q0, Q1, Q3, Q4, Q5⟩ := cf5_ b2.out; have V7 := l7.out; have V8 := k3.out; have V9 := l8.out; have W0 := k4.out; have W1 := i8.out; have W2 := k6.out; have W3 := i9.out; have W4 := k7.out; obtain ⟨Q6, Q7, Q8, Q9⟩ := cc4_ b4.out; obtain ⟨R0, R1, R2⟩ := cf3_ b4.out; have R3 := blk_frozen b4.out 3) | ((with_reducible refine gate_dst (N := 13) rfl ?_); (try (refine gate_guard (by rfl) ?_; dsimp only)); refine bx_ 13 #[.int .i64 0, .int .i64 0, .int .i64 0, .int .i64 0, .int .i64 0] 27 ?_; intro b6 hg w129 hbox hb; replace a2 := yaa (yaf (by (with_reducible repeat (first | apply yba | apply ybb | apply yaz)); exact (yay (yah (p := ⟨e9, 4, none⟩) (yah (p := ⟨e9, 3, none⟩) (yah (p := ⟨e9, 2, none⟩) (yah (p := ⟨e9, 1, none⟩) (yah (p := ⟨e9, 0, none⟩) (yab a2.out b2.out (by decide)) (fun _ hk => hk.2) (.int .i64 5)) (fun _ hk => hk.2) (.int .i64 0)) (fun _ hk => hk.2) (.int .i64 0)) (fun _ hk => hk.2) (.int .i64 0)) (fun _ hk => hk.2) (.int .i64 0)) (fun _ h_ => h_.1))) hb); replace a3 := yaa (yaf (by (with_reducible repeat (first | apply yba | apply ybb | apply yaz)); exact (yay (yah (p := ⟨e9, 4, none⟩) (yah (p := ⟨e9, 3, none⟩) (yah (p := ⟨e9, 2, none⟩) (yah (p := ⟨e9, 1, none⟩) (yah (p := ⟨e9, 0, none⟩) (yab a3.out b2.out (by decide)) (fun _ hk => hk.2) (.int .i64 5)) (fun _ hk => hk.2) (.int .i64 0)) (fun _ hk => hk.2) (.int .i64 0)) (fun _ hk => hk.2) (.int .i64 0)) (fun _ hk => hk.2) (.int .i64 0)) (fun _ h_ => h_.1))) hb); replace a4 := yaa (yaf (by (with_reducible repeat (first | apply yba | apply ybb | apply yaz)); exact (yay (yah (p := ⟨e9, 4, none⟩) (yah (p := ⟨e9, 3, none⟩) (yah (p := ⟨e9, 2, none⟩) (yah (p := ⟨e9, 1, none⟩) (yah (p := ⟨e9, 0, none⟩) (yab a4.out b2.out (by decide)) (fun _ hk => hk.2) (.int .i64 5)) (fun _ hk => hk.2) (.int .i64 0)) (fun _ hk => hk.2) (.int .i64 0)) (fun _ hk => hk.2) (.int .i64 0)) (fun _ hk => hk.2) (.int .i64 0)) (fun _ h_ => h_.1))) hb); have b3 := yaa (hbox); have R4 := yaa ((by rw [hg]; exact (yax (by repeat (with_reducible first | exact HB.out | refine oneH ?_ | refine yag ?_ (Aside0.out ‹_›)))) : w.heap.size ≤ b6)); replace HB := yaa (yal (by repeat (with_reducible first | exact HB.out | refine oneH ?_ | refine yag ?_ (Aside0.out ‹_›))) hb); have cV := R4; have o0 := yaa ((by rw [hg]; exact Nat.ne_of_lt (blk_lt (g := h3) (o := .cells #[.int .i64 k0, .int .i64 k2, .slice i1 g0.length h4] 25 (0, 0)) (by repeat (with_reducible first | exact a9.out | refine oneB ?_ | refine yat ?_ n0.out _))) : h3 ≠ b6)); replace a9 := yaa (yae (g := h3) (o := .cells #[.int .i64 k0, .int .i64 k2, .slice i1 g0.length h4] 25 (0, 0)) (by repeat (with_reducible first | exact a9.out | refine oneB ?_ | refine yat ?_ n0.out _)) hb); have C2 := yaa o0.out.symm; have o1 := yaa ((by rw [hg]; exact Nat.ne_of_lt (blk_lt (g := f2) (o := .cells #[.int .i64 g6, .int .i64 i6, .int .i64 i7, .int .i64 j3, .int .i64 j4] 27 (0, 0)) (by repeat (with_reducible first | exact a5.out | refine oneB ?_ | refine yat ?_ n1.out _))) : f2 ≠ b6)); replace a5 := yaa (yae (g := f2) (o := .cells #[.int .i64 g6, .int .i64 i6, .int .i64 i7, .int .i64 j3, .int .i64 j4] 27 (0, 0)) (by repeat (with_reducible first | exact a5.out | refine oneB ?_ | refine yat ?_ n1.out _)) hb); have C3 := yaa o1.out.symm; have o2 := yaa ((by rw [hg]; exact Nat.ne_of_lt (blk_lt (g := e1) (o := .cells #[.int .i64 f1, .int .i64 f5, .int .i64 f9, .int .i64 m4] 36 (0, 0)) (by repeat (with_reducible first | exact b4.out | refine oneB ?_ | refine yat ?_ n2.out _))) : e1 ≠ b6)); replace b4 := yaa (yae (g := e1) (o := .cells #[.int .i64 f1, .int .i64 f5, .int .i64 f9, .int .i64 m4] 36 (0, 0)) (by repeat (with_reducible first | exact b4.out | refine oneB ?_ | refine yat ?_ n2.out _)) hb); have C4 := yaa o2.out.symm; have o3 := yaa ((by rw [hg]; exact Nat.ne_of_lt (blk_lt (g := f7) (o := .cells #[.int .i64 j7, .int .i64 j8, .slice i2 g1.length h9] 25 (0, 0)) (by repeat (with_reducible first | exact b0.out | refine oneB ?_ | refine yat ?_ n3.out _))) : f7 ≠ b6)); replace b0 := yaa (yae (g := f7) (o := .cells #[.int .i64 j7, .int .i64 j8, .slice i2 g1.length h9] 25 (0, 0)) (by repeat (with_reducible first | exact b0.out | refine oneB ?_ | refine yat ?_ n3.out _)) hb); have C5 := yaa o3.out.symm; have o4 := yaa ((by rw [hg]; exact Nat.ne_of_lt (blk_lt (g := e3) (o := .cells #[.int .i64 l2, .int .i64 l6, .slice i5 g7.length i3] 25 (0, 0)) (by repeat (with_reducible first | exact b1.out | refine oneB ?_ | refine yat ?_ n4.out _))) : e3 ≠ b6)); replace b1 := yaa (yae (g := e3) (o := .cells #[.int .i64 l2, .int .i64 l6, .slice i5 g7.length i3] 25 (0, 0)) (by repeat (with_reducible first | exact b1.out | refine oneB ?_ | refine yat ?_ n4.out _)) hb); have C6 := yaa o4.out.symm; have o5 := yaa ((by rw [hg]; exact Nat.ne_of_lt (blk_lt (g := e9) (o := .cells #[.int .i64 5, .int .i64 0, .int .i64 0, .int .i64 0, .int .i64 0] 27 (0, 0)) (by (repeat refine oneB ?_); refine yas (cs := #[.int .i64 5, .int .i64 0, .int .i64 0, .int .i64 0, .int .i64 0]) ?_ 4 _ rfl; refine yas (cs := #[.int .i64 5, .int .i64 0, .int .i64 0, .int .i64 0, .int .i64 0]) ?_ 3 _ rfl; refine yas (cs := #[.int .i64 5, .int .i64 0, .int .i64 0, .int .i64 0, .int .i64 0]) ?_ 2 _ rfl; refine yas (cs := #[.int .i64 5, .int .i64 0, .int .i64 0, .int .i64 0, .int .i64 0]) ?_ 1 _ rfl; refine yas (cs := #[.int .i64 0, .int .i64 0, .int .i64 0, .int .i64 0, .int .i64 0]) ?_ 0 _ rfl; exact upB b2.out)) : e9 ≠ b6)); replace b2 := yaa (yae (g := e9) (o := .cells #[.int .i64 5, .int .i64 0, .int .i64 0, .int .i64 0, .int .i64 0] 27 (0, 0)) (by (repeat refine oneB ?_); refine yas (cs := #[.int .i64 5, .int .i64 0, .int .i64 0, .int .i64 0, .int .i64 0]) ?_ 4 _ rfl; refine yas (cs := #[.int .i64 5, .int .i64 0, .int .i64 0, .int .i64 0, .int .i64 0]) ?_ 3 _ rfl; refine yas (cs := #[.int .i64 5, .int .i64 0, .int .i64 0, .int .i64 0, .int .i64 0]) ?_ 2 _ rfl; refine yas (cs := #[.int .i64 5, .int .i64 0, .int .i64 0, .int .i64 0, .int .i64 0]) ?_ 1 _ rfl; refine yas (cs := #[.int .i64 0, .int .i64 0, .int .i64 0, .int .i64 0, .int .i64 0]) ?_ 0 _ rfl; exact upB b2.out) hb); have C7 := yaa o5.out.symm; clear hb hbox hg; have W5 := C2.out; have W6 := o0.out; have W7 := C3.out; have W8 := o1.out; have W9 := C4.out; have X0 := o2.out; have X1 := C5.out; have X2 := o3.out; have X3 := C6.out; have X4 := o4.out; have X5 := C7.out; have X6 := o5.out; obtain ⟨R5, R6, R7, R8, R9⟩ := cc5_ b3.out; obtain ⟨S0, S1, S2, S3⟩ := cf4_ b3.out; have S4 := blk_frozen b3.out 4))
           have n0_ : ybc (Kd.Q k36 36 (((((w129.setCell ⟨b6, 0, none⟩ (.int .i64 8)).setCell ⟨b6, 1, none⟩ (.int .i64 f1)).setCell ⟨b6, 2, none⟩ (.int .i64 f5)).setCell ⟨b6, 3, none⟩ (.int .i64 f9)).setCell ⟨b6, 4, none⟩ (.int .i64 0)) w.heap.size (fun k_ => some k_ ≠ (.slice i2 g1.length h9 : Value).ownBlock ∧ some k_ ≠ (.slice i5 g7.length i3 : Value).ownBlock ∧ k_ ≠ e1) (.slice i1 g0.length h4) g0) := ⟨by (with_reducible repeat (first | apply yba | apply ybb | apply yaz)); exact yay (yah (p := ⟨b6, 4, none⟩) (yah (p := ⟨b6, 3, none⟩) (yah (p := ⟨b6, 2, none⟩) (yah (p := ⟨b6, 1, none⟩) (yah (p := ⟨b6, 0, none⟩) (yab a2.out b3.out (by decide)) (fun _ hk => hk.2) (.int .i64 8)) (fun _ hk => hk.2) (.int .i64 f1)) (fun _ hk => hk.2) (.int .i64 f5)) (fun _ hk => hk.2) (.int .i64 f9)) (fun _ hk => hk.2) (.int .i64 0)) (fun _ hk => by first | exact ⟨hk.1.1, ⟨hk.1.2.1, hk.1.2.2⟩⟩ | exact True.intro | exact hk.1 | exact hk.1.1 | exact hk.1.2.1 | exact hk.1.2.2 | exact hk.2)⟩
           have n1_ : ybc (Kd.Q k36 36 (((((w129.setCell ⟨b6, 0, none⟩ (.int .i64 8)).setCell ⟨b6, 1, none⟩ (.int .i64 f1)).setCell ⟨b6, 2, none⟩ (.int .i64 f5)).setCell ⟨b6, 3, none⟩ (.int .i64 f9)).setCell ⟨b6, 4, none⟩ (.int .i64 0)) w.heap.size (fun k_ => some k_ ≠ (.slice i1 g0.length h4 : Value).ownBlock ∧ some k_ ≠ (.slice i5 g7.length i3 : Value).ownBlock ∧ k_ ≠ e1) (.slice i2 g1.length h9) g1) := ⟨by (with_reducible repeat (first | apply yba | apply ybb | apply yaz)); exact yay (yah (p := ⟨b6, 4, none⟩) (yah (p := ⟨b6, 3, none⟩) (yah (p := ⟨b6, 2, none⟩) (yah (p := ⟨b6, 1, none⟩) (yah (p := ⟨b6, 0, none⟩) (yab a3.out b3.out (by decide)) (fun _ hk => hk.2) (.int .i64 8)) (fun _ hk => hk.2) (.int .i64 f1)) (fun _ hk => hk.2) (.int .i64 f5)) (fun _ hk => hk.2) (.int .i64 f9)) (fun _ hk => hk.2) (.int .i64 0)) (fun _ hk => by first | exact ⟨hk.1.1, ⟨hk.1.2.1, hk.1.2.2⟩⟩ | exact True.intro | exact hk.1 | exact hk.1.1 | exact hk.1.2.1 | exact hk.1.2.2 | exact hk.2)⟩
           have n2_ : ybc (Kd.Q k36 36 (((((w129.setCell ⟨b6, 0, none⟩ (.int .i64 8)).setCell ⟨b6, 1, none⟩ (.int .i64 f1)).setCell ⟨b6, 2, none⟩ (.int .i64 f5)).setCell ⟨b6, 3, none⟩ (.int .i64 f9)).setCell ⟨b6, 4, none⟩ (.int .i64 0)) w.heap.size (fun k_ => some k_ ≠ (.slice i1 g0.length h4 : Value).ownBlock ∧ some k_ ≠ (.slice i2 g1.length h9 : Value).ownBlock ∧ k_ ≠ e1) (.slice i5 g7.length i3) g7) := ⟨by (with_reducible repeat (first | apply yba | apply ybb | apply yaz)); exact yay (yah (p := ⟨b6, 4, none⟩) (yah (p := ⟨b6, 3, none⟩) (yah (p := ⟨b6, 2, none⟩) (yah (p := ⟨b6, 1, none⟩) (yah (p := ⟨b6, 0, none⟩) (yab a4.out b3.out (by decide)) (fun _ hk => hk.2) (.int .i64 8)) (fun _ hk => hk.2) (.int .i64 f1)) (fun _ hk => hk.2) (.int .i64 f5)) (fun _ hk => hk.2) (.int .i64 f9)) (fun _ hk => hk.2) (.int .i64 0)) (fun _ hk => by first | exact ⟨hk.1.1, ⟨hk.1.2.1, hk.1.2.2⟩⟩ | exact True.intro | exact hk.1 | exact hk.1.1 | exact hk.1.2.1 | exact hk.1.2.2 | exact hk.2)⟩
           have n3_ : ybc ((((((w129.setCell ⟨b6, 0, none⟩ (.int .i64 8)).setCell ⟨b6, 1, none⟩ (.int .i64 f1)).setCell ⟨b6, 2, none⟩ (.int .i64 f5)).setCell ⟨b6, 3, none⟩ (.int .i64 f9)).setCell ⟨b6, 4, none⟩ (.int .i64 0)).heap[h3]? = some (.cells #[.int .i64 k0, .int .i64 k2, .slice i1 g0.length h4] 25 (0, 0))) := ⟨by repeat (with_reducible first | exact a9.out | refine oneB ?_ | refine yat ?_ o0.out _)⟩
           have n4_ : ybc ((((((w129.setCell ⟨b6, 0, none⟩ (.int .i64 8)).setCell ⟨b6, 1, none⟩ (.int .i64 f1)).setCell ⟨b6, 2, none⟩ (.int .i64 f5)).setCell ⟨b6, 3, none⟩ (.int .i64 f9)).setCell ⟨b6, 4, none⟩ (.int .i64 0)).heap[f2]? = some (.cells #[.int .i64 g6, .int .i64 i6, .int .i64 i7, .int .i64 j3, .int .i64 j4] 27 (0, 0))) := ⟨by repeat (with_reducible first | exact a5.out | refine oneB ?_ | refine yat ?_ o1.out _)⟩
           have n5_ : ybc ((((((w129.setCell ⟨b6, 0, none⟩ (.int .i64 8)).setCell ⟨b6, 1, none⟩ (.int .i64 f1)).setCell ⟨b6, 2, none⟩ (.int .i64 f5)).setCell ⟨b6, 3, none⟩ (.int .i64 f9)).setCell ⟨b6, 4, none⟩ (.int .i64 0)).heap[e1]? = some (.cells #[.int .i64 f1, .int .i64 f5, .int .i64 f9, .int .i64 m4] 36 (0, 0))) := ⟨by repeat (with_reducible first | exact b4.out | refine oneB ?_ | refine yat ?_ o2.out _)⟩
           have n6_ : ybc ((((((w129.setCell ⟨b6, 0, none⟩ (.int .i64 8)).setCell ⟨b6, 1, none⟩ (.int .i64 f1)).setCell ⟨b6, 2, none⟩ (.int .i64 f5)).setCell ⟨b6, 3, none⟩ (.int .i64 f9)).setCell ⟨b6, 4, none⟩ (.int .i64 0)).heap[f7]? = some (.cells #[.int .i64 j7, .int .i64 j8, .slice i2 g1.length h9] 25 (0, 0))) := ⟨by repeat (with_reducible first | exact b0.out | refine oneB ?_ | refine yat ?_ o3.out _)⟩
           have n7_ : ybc ((((((w129.setCell ⟨b6, 0, none⟩ (.int .i64 8)).setCell ⟨b6, 1, none⟩ (.int .i64 f1)).setCell ⟨b6, 2, none⟩ (.int .i64 f5)).setCell ⟨b6, 3, none⟩ (.int .i64 f9)).setCell ⟨b6, 4, none⟩ (.int .i64 0)).heap[e3]? = some (.cells #[.int .i64 l2, .int .i64 l6, .slice i5 g7.length i3] 25 (0, 0))) := ⟨by repeat (with_reducible first | exact b1.out | refine oneB ?_ | refine yat ?_ o4.out _)⟩
           have n8_ : ybc ((((((w129.setCell ⟨b6, 0, none⟩ (.int .i64 8)).setCell ⟨b6, 1, none⟩ (.int .i64 f1)).setCell ⟨b6, 2, none⟩ (.int .i64 f5)).setCell ⟨b6, 3, none⟩ (.int .i64 f9)).setCell ⟨b6, 4, none⟩ (.int .i64 0)).heap[e9]? = some (.cells #[.int .i64 5, .int .i64 0, .int .i64 0, .int .i64 0, .int .i64 0] 27 (0, 0))) := ⟨by repeat (with_reducible first | exact b2.out | refine oneB ?_ | refine yat ?_ o5.out _)⟩
           have n9_ : ybc ((((((w129.setCell ⟨b6, 0, none⟩ (.int .i64 8)).setCell ⟨b6, 1, none⟩ (.int .i64 f1)).setCell ⟨b6, 2, none⟩ (.int .i64 f5)).setCell ⟨b6, 3, none⟩ (.int .i64 f9)).setCell ⟨b6, 4, none⟩ (.int .i64 0)).heap[b6]? = some (.cells #[.int .i64 8, .int .i64 f1, .int .i64 f5, .int .i64 f9, .int .i64 0] 27 (0, 0))) := ⟨by (repeat refine oneB ?_); refine yas (cs := #[.int .i64 8, .int .i64 f1, .int .i64 f5, .int .i64 f9, .int .i64 0]) ?_ 4 _ rfl; refine yas (cs := #[.int .i64 8, .int .i64 f1, .int .i64 f5, .int .i64 0, .int .i64 0]) ?_ 3 _ rfl; refine yas (cs := #[.int .i64 8, .int .i64 f1, .int .i64 0, .int .i64 0, .int .i64 0]) ?_ 2 _ rfl; refine yas (cs := #[.int .i64 8, .int .i64 0, .int .i64 0, .int .i64 0, .int .i64 0]) ?_ 1 _ rfl; refine yas (cs := #[.int .i64 0, .int .i64 0, .int .i64 0, .int .i64 0, .int .i64 0]) ?_ 0 _ rfl; exact upB b3.out⟩
           have k1 : ybc (Below w.heap.size w (((((w129.setCell ⟨b6, 0, none⟩ (.int .i64 8)).setCell ⟨b6, 1, none⟩ (.int .i64 f1)).setCell ⟨b6, 2, none⟩ (.int .i64 f5)).setCell ⟨b6, 3, none⟩ (.int .i64 f9)).setCell ⟨b6, 4, none⟩ (.int .i64 0))) := ⟨by repeat (with_reducible first | exact HB.out | refine oneH ?_ | refine yag ?_ (Aside0.out ‹_›))⟩
           (try clear a2); (try clear a3); (try clear a4); (try clear a9); (try clear a5); (try clear b4); (try clear b0); (try clear b1); (try clear b2); (try clear b3); (try clear HB)
           generalize (((((w129.setCell ⟨b6, 0, none⟩ (.int .i64 8)).setCell ⟨b6, 1, none⟩ (.int .i64 f1)).setCell ⟨b6, 2, none⟩ (.int .i64 f5)).setCell ⟨b6, 3, none⟩ (.int .i64 f9)).setCell ⟨b6, 4, none⟩ (.int .i64 0)) = w137 at n0_ n1_ n2_ n3_ n4_ n5_ n6_ n7_ n8_ n9_ k1 ⊢
           have a2 := n0_; have a3 := n1_; have a4 := n2_; have a9 := n3_; have a5 := n4_; have b4 := n5_; have b0 := n6_; have b1 := n7_; have b2 := n8_; have b3 := n9_; have HB := k1; clear n0_ n1_ n2_ n3_ n4_ n5_ n6_ n7_ n8_ n9_ k1; replace a2 := yaa (yaz a2.out); replace a3 := yaa (yaz a3.out); replace a4 := yaa (yaz a4.out); replace a9 := yaa (blk_drew a9.out); replace a5 := yaa (blk_drew a5.out); replace b4 := yaa (blk_drew b4.out); replace b0 := yaa (blk_drew b0.out); replace b1 := yaa (blk_drew b1.out); replace b2 := yaa (blk_drew b2.out); replace b3 := yaa (blk_drew b3.out); replace HB := yaa (below_drew1 HB.out)
           refine start_ (n := 23) (S := fun w' => True) (ds := []) q6_0 (by kernel_rfl) rfl rfl trivial (fun hHeld => ?_); refine with_tabW laws_FnOpEach.tab13 laws_FnOpEach.bits13 (fun HT_ HW_ => ?_)
           generalize w137.drew = w138 at a2 a3 a4 a9 a5 b4 b0 b1 b2 b3 HB hHeld ⊢
           refine inv_at [0, 1, 2, 3, 4, 5, 6, 7, 8, 9, 10, 11, 12, 13, 14, 15, 16, 17, 18, 19, 20, 21, 22] (fun a0_ b a w' => ∃ (g4 : Value) (h0 : Value) (g5 : Value) (h5 : Value) (g8 : Value) (h2 : Value) (g9 : Value) (h6 : Value) (m3_ : Value) (m8_ : Value) (h7 : Value) (h8 : Value), a = putSel a0_ b [(0, 81, .agg #[.int .i64 j7, .int .i64 j8, .slice i2 g1.length h9]), (1, 82, .agg #[.int .i64 5, .int .i64 0, .int .i64 0, .int .i64 0, .int .i64 0]), (2, 83, g4), (3, 84, m3_), (4, 85, .agg #[.int .i64 k0, .int .i64 k2, .slice i1 g0.length h4]), (5, 86, .agg #[.int .i64 5, .int .i64 0, .int .i64 0, .int .i64 0, .int .i64 0]), (6, 87, .agg #[.int .i64 g6, .int .i64 i6, .int .i64 i7, .int .i64 j3, .int .i64 j4]), (7, 88, g5), (8, 89, m8_), (9, 90, .bool true), (10, 91, .bool true), (11, 92, .agg #[.int .i64 j7, .int .i64 j8, .slice i2 g1.length h9]), (12, 93, .agg #[.int .i64 8, .int .i64 f1, .int .i64 f5, .int .i64 f9, .int .i64 0]), (13, 94, g8), (14, 95, h7), (15, 96, .agg #[.int .i64 k0, .int .i64 k2, .slice i1 g0.length h4]), (16, 97, .agg #[.int .i64 8, .int .i64 f1, .int .i64 f5, .int .i64 f9, .int .i64 0]), (17, 98, .agg #[.int .i64 g6, .int .i64 i6, .int .i64 i7, .int .i64 j3, .int .i64 j4]), (18, 99, g9), (19, 100, h8), (20, 101, .bool o8), (21, 102, .bool o8), (22, 4, .bool o8)] ∧ (Kd.Q k36 36 w' w.heap.size (fun k_ => some k_ ≠ (.slice i2 g1.length h9 : Value).ownBlock ∧ some k_ ≠ (.slice i5 g7.length i3 : Value).ownBlock ∧ k_ ≠ e1) (.slice i1 g0.length h4) g0) ∧ (Kd.Q k36 36 w' w.heap.size (fun k_ => some k_ ≠ (.slice i1 g0.length h4 : Value).ownBlock ∧ some k_ ≠ (.slice i5 g7.length i3 : Value).ownBlock ∧ k_ ≠ e1) (.slice i2 g1.length h9) g1) ∧ (Kd.Q k36 36 w' w.heap.size (fun k_ => some k_ ≠ (.slice i1 g0.length h4 : Value).ownBlock ∧ some k_ ≠ (.slice i2 g1.length h9 : Value).ownBlock ∧ k_ ≠ e1) (.slice i5 g7.length i3) g7) ∧ (w'.heap[h3]? = some (.cells #[.int .i64 k0, .int .i64 k2, .slice i1 g0.length h4] 25 (0, 0))) ∧ (w'.heap[f2]? = some (.cells #[.int .i64 g6, .int .i64 i6, .int .i64 i7, .int .i64 j3, .int .i64 j4] 27 (0, 0))) ∧ (w'.heap[e1]? = some (.cells #[.int .i64 f1, .int .i64 f5, .int .i64 f9, .int .i64 m4] 36 (0, 0))) ∧ (w'.heap[f7]? = some (.cells #[.int .i64 j7, .int .i64 j8, .slice i2 g1.length h9] 25 (0, 0))) ∧ (w'.heap[e3]? = some (.cells #[.int .i64 l2, .int .i64 l6, .slice i5 g7.length i3] 25 (0, 0))) ∧ (w'.heap[e9]? = some (.cells #[.int .i64 5, .int .i64 0, .int .i64 0, .int .i64 0, .int .i64 0] 27 (0, 0))) ∧ (w'.heap[b6]? = some (.cells #[.int .i64 8, .int .i64 f1, .int .i64 f5, .int .i64 f9, .int .i64 0] 27 (0, 0))) ∧ (Below w.heap.size w w') ∧ (b 2 = true → Kd.R k27 27 w' w.heap.size (fun k_ => k_ ≠ f2 ∧ k_ ≠ e9 ∧ k_ ≠ b6) g4 y137) ∧ (b 3 = true → Kd.V k36 36 w' w.heap.size (fun k_ => some k_ ≠ (.slice i1 g0.length h4 : Value).ownBlock ∧ some k_ ≠ (.slice i5 g7.length i3 : Value).ownBlock ∧ k_ ≠ h3 ∧ k_ ≠ f2 ∧ k_ ≠ e1 ∧ k_ ≠ f7 ∧ k_ ≠ e3 ∧ k_ ≠ e9 ∧ k_ ≠ b6) h0 B5) ∧ (b 7 = true → Kd.R k27 27 w' w.heap.size (fun k_ => k_ ≠ f2 ∧ k_ ≠ e9 ∧ k_ ≠ b6) g5 y145) ∧ (b 8 = true → Kd.V k36 36 w' w.heap.size (fun k_ => some k_ ≠ (.slice i2 g1.length h9 : Value).ownBlock ∧ some k_ ≠ (.slice i5 g7.length i3 : Value).ownBlock ∧ k_ ≠ h3 ∧ k_ ≠ f2 ∧ k_ ≠ e1 ∧ k_ ≠ f7 ∧ k_ ≠ e3 ∧ k_ ≠ e9 ∧ k_ ≠ b6) h5 F1) ∧ (b 13 = true → Kd.R k27 27 w' w.heap.size (fun k_ => k_ ≠ f2 ∧ k_ ≠ e9 ∧ k_ ≠ b6) g8 y154) ∧ (b 14 = true → Kd.V k36 36 w' w.heap.size (fun k_ => some k_ ≠ (.slice i1 g0.length h4 : Value).ownBlock ∧ some k_ ≠ (.slice i5 g7.length i3 : Value).ownBlock ∧ k_ ≠ h3 ∧ k_ ≠ f2 ∧ k_ ≠ e1 ∧ k_ ≠ f7 ∧ k_ ≠ e3 ∧ k_ ≠ e9 ∧ k_ ≠ b6) h2 B6) ∧ (b 18 = true → Kd.R k27 27 w' w.heap.size (fun k_ => k_ ≠ f2 ∧ k_ ≠ e9 ∧ k_ ≠ b6) g9 y162) ∧ (b 19 = true → Kd.V k36 36 w' w.heap.size (fun k_ => some k_ ≠ (.slice i2 g1.length h9 : Value).ownBlock ∧ some k_ ≠ (.slice i5 g7.length i3 : Value).ownBlock ∧ k_ ≠ h3 ∧ k_ ≠ f2 ∧ k_ ≠ e1 ∧ k_ ≠ f7 ∧ k_ ≠ e3 ∧ k_ ≠ e9 ∧ k_ ≠ b6) h6 F6) ∧ (b 3 = true → (m3_ : Value) = .agg #[.int .i64 E7, .int .i64 E8, h0]) ∧ (b 8 = true → (m8_ : Value) = .agg #[.int .i64 E9, .int .i64 F0, h5]) ∧ (b 14 = true → (h7 : Value) = .agg #[.int .i64 F2, .int .i64 F3, h2]) ∧ (b 19 = true → (h8 : Value) = .agg #[.int .i64 F4, .int .i64 F5, h6])) HT_.out HW_.out (by kernel_rfl) (by kernel_rfl) ?_ ?_ ?_
           ·
            exact ⟨.bool false, .bool false, .bool false, .bool false, .bool false, .bool false, .bool false, .bool false, .bool false, .bool false, .bool false, .bool false, by simp only [putSel, Bool.false_eq_true, if_false], a2.out, a3.out, a4.out, a9.out, a5.out, b4.out, b0.out, b1.out, b2.out, b3.out, HB.out, fun h_ => absurd h_ (by decide), fun h_ => absurd h_ (by decide), fun h_ => absurd h_ (by decide), fun h_ => absurd h_ (by decide), fun h_ => absurd h_ (by decide), fun h_ => absurd h_ (by decide), fun h_ => absurd h_ (by decide), fun h_ => absurd h_ (by decide), fun h_ => absurd h_ (by decide), fun h_ => absurd h_ (by decide), fun h_ => absurd h_ (by decide), fun h_ => absurd h_ (by decide)⟩
           ·
            skip
            clear a9 a5 b4 b0 b1 b2 b3 HB a2 a3 a4
            refine yaq ?_ ?_
            ·
             rintro b a w' ⟨g4, h0, g5, h5, g8, h2, g9, h6, m3_, m8_, h7, h8, ha, a6, a7, a8, b7, b8, b9, d0, d1, d2, d3, Q_HB, d4, d7, d5, d8, d9, e2, e0, e7, f4, g2, f3, g3⟩ hb_ hon hoff
             refine ⟨_, rfl, fun K hK => ?_⟩; have e8 : a.tmps[8]? = some (.pointer (some ⟨f7, 0, none⟩)) := (by rw [ha]; exact (putSel_off rfl).trans rfl); replace ha := yaa ha; have a2 := yaa a6; have a3 := yaa a7; have a4 := yaa a8; have a9 := yaa b7; have a5 := yaa b8; have b4 := yaa b9; have b0 := yaa d0; have b1 := yaa d1; have b2 := yaa d2; have b3 := yaa d3; have HB := yaa Q_HB; obtain ⟨hc0_, hc1_, hc2_⟩ := cc3_ b0.out
             refine value_ (w1 := w') (v := .agg #[.int .i64 j7, .int .i64 j8, .slice i2 g1.length h9]) (by rfl) rfl ?_ ?_
             ·
              go_simp
              (try simp only [i64_w])
              try rfl
             refine hK.out _ _ ⟨g4, h0, g5, h5, g8, h2, g9, h6, m3_, m8_, h7, h8, (by rw [ha.out]; exact yar 0 hb_ rfl rfl rfl), a6, a7, a8, b7, b8, b9, d0, d1, d2, d3, Q_HB, d4, offA_ (hoff 3 (by kernel_rfl)), d5, offA_ (hoff 8 (by kernel_rfl)), offA_ (hoff 13 (by kernel_rfl)), offA_ (hoff 14 (by kernel_rfl)), offA_ (hoff 18 (by kernel_rfl)), offA_ (hoff 19 (by kernel_rfl)), offA_ (hoff 3 (by kernel_rfl)), offA_ (hoff 8 (by kernel_rfl)), offA_ (hoff 14 (by kernel_rfl)), offA_ (hoff 19 (by kernel_rfl))⟩
            refine yaq ?_ ?_
            ·
             rintro b a w' ⟨g4, h0, g5, h5, g8, h2, g9, h6, m3_, m8_, h7, h8, ha, a6, a7, a8, b7, b8, b9, d0, d1, d2, d3, Q_HB, d4, d7, d5, d8, d9, e2, e0, e7, f4, g2, f3, g3⟩ hb_ hon hoff
             refine ⟨_, rfl, fun K hK => ?_⟩; have e12 : a.tmps[12]? = some (.pointer (some ⟨e9, 0, none⟩)) := (by rw [ha]; exact (putSel_off rfl).trans rfl); replace ha := yaa ha; have a2 := yaa a6; have a3 := yaa a7; have a4 := yaa a8; have a9 := yaa b7; have a5 := yaa b8; have b4 := yaa b9; have b0 := yaa d0; have b1 := yaa d1; have b2 := yaa d2; have b3 := yaa d3; have HB := yaa Q_HB; obtain ⟨hc0_, hc1_, hc2_, hc3_, hc4_⟩ := cc5_ b2.out
             refine value_ (w1 := w') (v := .agg #[.int .i64 5, .int .i64 0, .int .i64 0, .int .i64 0, .int .i64 0]) (by rfl) rfl ?_ ?_
             ·
              go_simp
              (try simp only [i64_w])
              try rfl
             refine hK.out _ _ ⟨g4, h0, g5, h5, g8, h2, g9, h6, m3_, m8_, h7, h8, (by rw [ha.out]; exact yar 1 hb_ rfl rfl rfl), a6, a7, a8, b7, b8, b9, d0, d1, d2, d3, Q_HB, offA_ (hoff 2 (by kernel_rfl)), offA_ (hoff 3 (by kernel_rfl)), d5, offA_ (hoff 8 (by kernel_rfl)), offA_ (hoff 13 (by kernel_rfl)), offA_ (hoff 14 (by kernel_rfl)), offA_ (hoff 18 (by kernel_rfl)), offA_ (hoff 19 (by kernel_rfl)), offA_ (hoff 3 (by kernel_rfl)), offA_ (hoff 8 (by kernel_rfl)), offA_ (hoff 14 (by kernel_rfl)), offA_ (hoff 19 (by kernel_rfl))⟩
            refine yaq ?_ ?_
            ·
             rintro b a w' ⟨g4, h0, g5, h5, g8, h2, g9, h6, m3_, m8_, h7, h8, ha, a6, a7, a8, b7, b8, b9, d0, d1, d2, d3, Q_HB, d4, d7, d5, d8, d9, e2, e0, e7, f4, g2, f3, g3⟩ hb_ hon hoff
             refine ⟨_, rfl, fun K hK => ?_⟩; have e82 : a.tmps[82]? = some (.agg #[.int .i64 5, .int .i64 0, .int .i64 0, .int .i64 0, .int .i64 0]) := (by rw [ha]; exact yam (e := (1, 82, .agg #[.int .i64 5, .int .i64 0, .int .i64 0, .int .i64 0, .int .i64 0])) 1 rfl rfl (hon 1 (by kernel_rfl)) rfl); replace ha := yaa ha; have a2 := yaa a6; have a3 := yaa a7; have a4 := yaa a8; have a9 := yaa b7; have a5 := yaa b8; have b4 := yaa b9; have b0 := yaa d0; have b1 := yaa d1; have b2 := yaa d2; have b3 := yaa d3; have HB := yaa Q_HB
             refine Kd.R_lit_step k27 _ 27 ?hg (N := 83) ?hd (xs := ([(⟨5, 0, 0, 0, 0⟩ : S27)] : List (S27))) (inner := [.int .i64 5, .int .i64 0, .int .i64 0, .int .i64 0, .int .i64 0]) (ok := fun _ => True) (okp := fun _ => True) ?hr ?hp (fun _ hk => hk) trivial (Below.refl _ _) (Nat.le_refl _) (by simp) ?_; (case hd => rfl); (case hg => first | rfl | (simp [Region.wanted, yielded, *]; done)); (case hr => first | (go_simp; done) | (go_simp; rfl)); (case hp => exact (Reps.c5 (show Kd.M k27 _ _ _ (⟨5, 0, 0, 0, 0⟩ : S27) [.int .i64 5, .int .i64 0, .int .i64 0, .int .i64 0, .int .i64 0] from (k27_mkM _ _ _ (⟨5, 0, 0, 0, 0⟩ : S27) )) (Reps.none _ _)))
             intro g4 w139 l4 hb hg_ hnew_; clear hg_ hnew_
             (first | rw [← Ny137.out] at l4 | (simp only [Int.reduceToNat] at l4; rw [← Ny137.out] at l4))
             have n0_ := yaa (yaf (upQ a2.out) hb); have n1_ := yaa (yaf (upQ a3.out) hb); have n2_ := yaa (yaf (upQ a4.out) hb)
             have n3_ := yaa (Kd.R_lower (Kd.R_newB (Kd.R_newB (Kd.R_newB l4 (upB a5.out)) (upB b2.out)) (upB b3.out)) (yax (by repeat (with_reducible first | exact HB.out | refine oneH ?_ | refine yag ?_ (Aside0.out ‹_›)))))
             have n4_ := yaa (yae (upB a9.out) hb); have n5_ := yaa (yae (upB a5.out) hb); have n6_ := yaa (yae (upB b4.out) hb); have n7_ := yaa (yae (upB b0.out) hb); have n8_ := yaa (yae (upB b1.out) hb); have n9_ := yaa (yae (upB b2.out) hb); have k1 := yaa (yae (upB b3.out) hb)
             have k8 := yaa (yal (by repeat (with_reducible first | exact HB.out | refine oneH ?_ | refine yag ?_ (Aside0.out ‹_›))) hb)
             have p3 := fun (h0_ : b 7 = true) => (show Kd.R k27 27 w139 w.heap.size (fun k_ => k_ ≠ f2 ∧ k_ ≠ e9 ∧ k_ ≠ b6) g5 y145 from by first | exact (ybe (by (with_reducible repeat (first | apply yai | apply yaj | apply yak)); exact (d5 h0_)) (yav l4) hb) | exact yao (ybe (by (with_reducible repeat (first | apply yai | apply yaj | apply yak)); exact (d5 h0_)) (yav l4) hb) (fun _ h_ => by first | trivial | exact h_ | exact h_.1))
             clear a2; clear a3; clear a4; clear a9; clear a5; clear b4; clear b0; clear b1; clear b2; clear b3; clear HB; have a2 := n0_; have a3 := n1_; have a4 := n2_; have b5 := n3_; have a9 := n4_; have a5 := n5_; have b4 := n6_; have b0 := n7_; have b1 := n8_; have b2 := n9_; have b3 := k1; have HB := k8; clear n0_ n1_ n2_ n3_ n4_ n5_ n6_ n7_ n8_ n9_ k1 k8; clear hb l4
             refine hK.out _ _ ⟨g4, h0, g5, h5, g8, h2, g9, h6, m3_, m8_, h7, h8, (by rw [ha.out]; exact yar 2 hb_ rfl rfl rfl), (upQ a2.out), (upQ a3.out), (upQ a4.out), (upB a9.out), (upB a5.out), (upB b4.out), (upB b0.out), (upB b1.out), (upB b2.out), (upB b3.out), (by repeat (with_reducible first | exact HB.out | refine oneH ?_ | refine yag ?_ (Aside0.out ‹_›))), fun _ => (by (with_reducible repeat (first | apply yai | apply yaj | apply yak)); exact yao b5.out (fun _ hk => by grind)), offA_ (hoff 3 (by kernel_rfl)), p3, offA_ (hoff 8 (by kernel_rfl)), offA_ (hoff 13 (by kernel_rfl)), offA_ (hoff 14 (by kernel_rfl)), offA_ (hoff 18 (by kernel_rfl)), offA_ (hoff 19 (by kernel_rfl)), offA_ (hoff 3 (by kernel_rfl)), offA_ (hoff 8 (by kernel_rfl)), offA_ (hoff 14 (by kernel_rfl)), offA_ (hoff 19 (by kernel_rfl))⟩
            refine yaq ?_ ?_
            ·
             rintro b a w' ⟨g4, h0, g5, h5, g8, h2, g9, h6, m3_, m8_, h7, h8, ha, a6, a7, a8, b7, b8, b9, d0, d1, d2, d3, Q_HB, d4, d7, d5, d8, d9, e2, e0, e7, f4, g2, f3, g3⟩ hb_ hon hoff
             refine ⟨_, rfl, fun K hK => ?_⟩; have e81 : a.tmps[81]? = some (.agg #[.int .i64 j7, .int .i64 j8, .slice i2 g1.length h9]) := (by rw [ha]; exact yam (e := (0, 81, .agg #[.int .i64 j7, .int .i64 j8, .slice i2 g1.length h9])) 0 rfl rfl (hon 0 (by kernel_rfl)) rfl); have e83 : a.tmps[83]? = some (g4) := (by rw [ha]; exact yam (e := (2, 83, g4)) 2 rfl rfl (hon 2 (by kernel_rfl)) rfl); replace ha := yaa ha; have a2 := yaa a6; have a3 := yaa a7; have a4 := yaa a8; have a9 := yaa b7; have a5 := yaa b8; have b4 := yaa b9; have b0 := yaa d0; have b1 := yaa d1; have b2 := yaa d2; have b3 := yaa d3; have HB := yaa Q_HB; have b5 := yaa (d4 (hon 2 (by kernel_rfl))); obtain ⟨F7, F8, M9⟩ := Kd.R_slice b5.out
             (first | subst M9 | (injection M9 with f1_ f2_ f3_; have f4_ := f1_.symm; have f5_ := f3_.symm; clear f1_ f2_ f3_; subst f4_; subst f5_))
             refine goes_ Try.func15 (by kernel_rfl) rfl #[.agg #[.int .i64 j7, .int .i64 j8, .slice i2 g1.length h9], .slice F7 y137.length F8] (by first | rfl | (simp [Region.wanted, yielded, *]; done)) rfl rfl (by first | (simp only [List.map_toArray, List.map_cons, List.map_nil, Act.eval, Array.getD_eq_getD_getElem?, Option.getD_some, e81, e83]; done) | (simp only [List.map_toArray, List.map_cons, List.map_nil, Act.eval, Array.getD_eq_getD_getElem?, Option.getD_some, e81, e83]; rfl)) ?_
             with_reducible refine (laws_eaDo.calls kj64 j7 j8 (fun k_ => some k_ = (.slice i2 g1.length h9 : Value).ownBlock) _ _ g1 _ _ y137 E7 E8 B5 _ ?side1 ?side2 ?side3 U0.out).mono ?_
             (case side1 => exact Kd.Q_V (Kd.Q_tight rfl (yab (yab (yab (yab (yab (yab (yac (a3.out) (yad b5.out) (by decide)) a9.out (by decide)) a5.out (by decide)) b0.out (by decide)) b1.out (by decide)) b2.out (by decide)) b3.out (by decide))))
             (case side2 => repeat (first | exact (yaw b5.out).2.2 | (with_reducible refine Kd.C_alloc ?_ _) | (with_reducible refine Kd.C_drewN ?_ _) | (with_reducible refine Kd.C_drew ?_)))
             (case side3 => exact (yaw b5.out).2.1)
             rintro e w143 ⟨h0, rfl, ho0, hb⟩; refine ⟨_, rfl, ?_⟩; have n0_ := yaa (yaf (upQ a2.out) hb); have n1_ := yaa (yaf (upQ a3.out) hb); have n2_ := yaa (yaf (upQ a4.out) hb); have n3_ := yaa (yan (upR b5.out) hb)
             have n4_ := yaa (Kd.V_lower (Kd.V_mono (ok' := fun k_ => some k_ ≠ (.slice i1 g0.length h4 : Value).ownBlock ∧ some k_ ≠ (.slice i5 g7.length i3 : Value).ownBlock ∧ some k_ ≠ (.slice F7 y137.length F8 : Value).ownBlock ∧ k_ ≠ h3 ∧ k_ ≠ f2 ∧ k_ ≠ e1 ∧ k_ ≠ f7 ∧ k_ ≠ e3 ∧ k_ ≠ e9 ∧ k_ ≠ b6) ho0 (fun k_ hk_ => ⟨Or.elim hk_ (fun hs_ => ((yab (yab (yab (yab (yab (yab (yac (a3.out) (yad b5.out) (by decide)) a9.out (by decide)) a5.out (by decide)) b0.out (by decide)) b1.out (by decide)) b2.out (by decide)) b3.out (by decide)).1 k_ hs_.symm).1.1.1.1.1.1.1.1) (fun hn_ => (ybd (Kd.Q_lt (upQ a2.out)) k_ hn_)), Or.elim hk_ (fun hs_ => ((yab (yab (yab (yab (yab (yab (yac (a3.out) (yad b5.out) (by decide)) a9.out (by decide)) a5.out (by decide)) b0.out (by decide)) b1.out (by decide)) b2.out (by decide)) b3.out (by decide)).1 k_ hs_.symm).1.1.1.1.1.1.1.2.1) (fun hn_ => (ybd (Kd.Q_lt (upQ a4.out)) k_ hn_)), Or.elim hk_ (fun hs_ => ((yab (yab (yab (yab (yab (yab (yac (a3.out) (yad b5.out) (by decide)) a9.out (by decide)) a5.out (by decide)) b0.out (by decide)) b1.out (by decide)) b2.out (by decide)) b3.out (by decide)).1 k_ hs_.symm).1.1.1.1.1.1.2) (fun hn_ => (ybd (Kd.R_lt (upR b5.out)) k_ hn_)), Or.elim hk_ (fun hs_ => ((yab (yab (yab (yab (yab (yab (yac (a3.out) (yad b5.out) (by decide)) a9.out (by decide)) a5.out (by decide)) b0.out (by decide)) b1.out (by decide)) b2.out (by decide)) b3.out (by decide)).1 k_ hs_.symm).1.1.1.1.1.2) (fun hn_ => (yap (upB a9.out) k_ hn_)), Or.elim hk_ (fun hs_ => ((yab (yab (yab (yab (yab (yab (yac (a3.out) (yad b5.out) (by decide)) a9.out (by decide)) a5.out (by decide)) b0.out (by decide)) b1.out (by decide)) b2.out (by decide)) b3.out (by decide)).1 k_ hs_.symm).1.1.1.1.2) (fun hn_ => (yap (upB a5.out) k_ hn_)), Or.elim hk_ (fun hs_ => ((yab (yab (yab (yab (yab (yab (yac (a3.out) (yad b5.out) (by decide)) a9.out (by decide)) a5.out (by decide)) b0.out (by decide)) b1.out (by decide)) b2.out (by decide)) b3.out (by decide)).1 k_ hs_.symm).1.1.1.1.1.1.1.2.2) (fun hn_ => (yap (upB b4.out) k_ hn_)), Or.elim hk_ (fun hs_ => ((yab (yab (yab (yab (yab (yab (yac (a3.out) (yad b5.out) (by decide)) a9.out (by decide)) a5.out (by decide)) b0.out (by decide)) b1.out (by decide)) b2.out (by decide)) b3.out (by decide)).1 k_ hs_.symm).1.1.1.2) (fun hn_ => (yap (upB b0.out) k_ hn_)), Or.elim hk_ (fun hs_ => ((yab (yab (yab (yab (yab (yab (yac (a3.out) (yad b5.out) (by decide)) a9.out (by decide)) a5.out (by decide)) b0.out (by decide)) b1.out (by decide)) b2.out (by decide)) b3.out (by decide)).1 k_ hs_.symm).1.1.2) (fun hn_ => (yap (upB b1.out) k_ hn_)), Or.elim hk_ (fun hs_ => ((yab (yab (yab (yab (yab (yab (yac (a3.out) (yad b5.out) (by decide)) a9.out (by decide)) a5.out (by decide)) b0.out (by decide)) b1.out (by decide)) b2.out (by decide)) b3.out (by decide)).1 k_ hs_.symm).1.2) (fun hn_ => (yap (upB b2.out) k_ hn_)), Or.elim hk_ (fun hs_ => ((yab (yab (yab (yab (yab (yab (yac (a3.out) (yad b5.out) (by decide)) a9.out (by decide)) a5.out (by decide)) b0.out (by decide)) b1.out (by decide)) b2.out (by decide)) b3.out (by decide)).1 k_ hs_.symm).2) (fun hn_ => (yap (upB b3.out) k_ hn_))⟩)) (yax (by repeat (with_reducible first | exact HB.out | refine oneH ?_ | refine yag ?_ (Aside0.out ‹_›)))))
             have n5_ := yaa (yae (upB a9.out) hb); have n6_ := yaa (yae (upB a5.out) hb); have n7_ := yaa (yae (upB b4.out) hb); have n8_ := yaa (yae (upB b0.out) hb); have n9_ := yaa (yae (upB b1.out) hb); have k1 := yaa (yae (upB b2.out) hb); have k8 := yaa (yae (upB b3.out) hb)
             have m3 := yaa (yal (by repeat (with_reducible first | exact HB.out | refine oneH ?_ | refine yag ?_ (Aside0.out ‹_›))) hb)
             have p3 := fun (h0_ : b 7 = true) => (show Kd.R k27 27 w143 w.heap.size (fun k_ => k_ ≠ f2 ∧ k_ ≠ e9 ∧ k_ ≠ b6) g5 y145 from by first | exact (yan (by (with_reducible repeat (first | apply yai | apply yaj | apply yak)); exact (d5 h0_)) hb) | exact yao (yan (by (with_reducible repeat (first | apply yai | apply yaj | apply yak)); exact (d5 h0_)) hb) (fun _ h_ => by first | trivial | exact h_ | exact h_.1))
             clear a2; clear a3; clear a4; clear b5; clear a9; clear a5; clear b4; clear b0; clear b1; clear b2; clear b3; clear HB; have a2 := n0_; have a3 := n1_; have a4 := n2_; have b5 := n3_; have f0 := n4_; have a9 := n5_; have a5 := n6_; have b4 := n7_; have b0 := n8_; have b1 := n9_; have b2 := k1; have b3 := k8; have HB := m3; clear n0_ n1_ n2_ n3_ n4_ n5_ n6_ n7_ n8_ n9_ k1 k8 m3; (try clear hb); (try clear hb2); (try clear hk); (try clear hi); (try clear ho0)
             refine hK.out _ _ ⟨.slice F7 y137.length F8, h0, g5, h5, g8, h2, g9, h6, (.agg #[.int .i64 E7, .int .i64 E8, h0]), m8_, h7, h8, (by rw [ha.out]; exact yar 3 hb_ rfl rfl rfl), (upQ a2.out), (upQ a3.out), (upQ a4.out), (upB a9.out), (upB a5.out), (upB b4.out), (upB b0.out), (upB b1.out), (upB b2.out), (upB b3.out), (by repeat (with_reducible first | exact HB.out | refine oneH ?_ | refine yag ?_ (Aside0.out ‹_›))), fun _ => (upR b5.out), fun _ => (by (with_reducible repeat (first | apply Kd.V_alloc | apply Kd.V_drewN | apply Kd.V_drew)); exact Kd.V_mono f0.out (fun _ hk => by grind)), p3, offA_ (hoff 8 (by kernel_rfl)), offA_ (hoff 13 (by kernel_rfl)), offA_ (hoff 14 (by kernel_rfl)), offA_ (hoff 18 (by kernel_rfl)), offA_ (hoff 19 (by kernel_rfl)), fun _ => rfl, offA_ (hoff 8 (by kernel_rfl)), offA_ (hoff 14 (by kernel_rfl)), offA_ (hoff 19 (by kernel_rfl))⟩
            refine yaq ?_ ?_
            ·
             rintro b a w' ⟨g4, h0, g5, h5, g8, h2, g9, h6, m3_, m8_, h7, h8, ha, a6, a7, a8, b7, b8, b9, d0, d1, d2, d3, Q_HB, d4, d7, d5, d8, d9, e2, e0, e7, f4, g2, f3, g3⟩ hb_ hon hoff
             refine ⟨_, rfl, fun K hK => ?_⟩; have e5 : a.tmps[5]? = some (.pointer (some ⟨h3, 0, none⟩)) := (by rw [ha]; exact (putSel_off rfl).trans rfl); replace ha := yaa ha; have a2 := yaa a6; have a3 := yaa a7; have a4 := yaa a8; have a9 := yaa b7; have a5 := yaa b8; have b4 := yaa b9; have b0 := yaa d0; have b1 := yaa d1; have b2 := yaa d2; have b3 := yaa d3; have HB := yaa Q_HB; obtain ⟨hc0_, hc1_, hc2_⟩ := cc3_ a9.out
             refine value_ (w1 := w') (v := .agg #[.int .i64 k0, .int .i64 k2, .slice i1 g0.length h4]) (by rfl) rfl ?_ ?_
             ·
              go_simp
              (try simp only [i64_w])
              try rfl
             refine hK.out _ _ ⟨g4, h0, g5, h5, g8, h2, g9, h6, m3_, m8_, h7, h8, (by rw [ha.out]; exact yar 4 hb_ rfl rfl rfl), a6, a7, a8, b7, b8, b9, d0, d1, d2, d3, Q_HB, d4, d7, d5, offA_ (hoff 8 (by kernel_rfl)), offA_ (hoff 13 (by kernel_rfl)), offA_ (hoff 14 (by kernel_rfl)), offA_ (hoff 18 (by kernel_rfl)), offA_ (hoff 19 (by kernel_rfl)), f4, offA_ (hoff 8 (by kernel_rfl)), offA_ (hoff 14 (by kernel_rfl)), offA_ (hoff 19 (by kernel_rfl))⟩
            refine yaq ?_ ?_
            ·
             rintro b a w' ⟨g4, h0, g5, h5, g8, h2, g9, h6, m3_, m8_, h7, h8, ha, a6, a7, a8, b7, b8, b9, d0, d1, d2, d3, Q_HB, d4, d7, d5, d8, d9, e2, e0, e7, f4, g2, f3, g3⟩ hb_ hon hoff
             refine ⟨_, rfl, fun K hK => ?_⟩; have e12 : a.tmps[12]? = some (.pointer (some ⟨e9, 0, none⟩)) := (by rw [ha]; exact (putSel_off rfl).trans rfl); replace ha := yaa ha; have a2 := yaa a6; have a3 := yaa a7; have a4 := yaa a8; have a9 := yaa b7; have a5 := yaa b8; have b4 := yaa b9; have b0 := yaa d0; have b1 := yaa d1; have b2 := yaa d2; have b3 := yaa d3; have HB := yaa Q_HB; obtain ⟨hc0_, hc1_, hc2_, hc3_, hc4_⟩ := cc5_ b2.out
             refine value_ (w1 := w') (v := .agg #[.int .i64 5, .int .i64 0, .int .i64 0, .int .i64 0, .int .i64 0]) (by rfl) rfl ?_ ?_
             ·
              go_simp
              (try simp only [i64_w])
              try rfl
             refine hK.out _ _ ⟨g4, h0, g5, h5, g8, h2, g9, h6, m3_, m8_, h7, h8, (by rw [ha.out]; exact yar 5 hb_ rfl rfl rfl), a6, a7, a8, b7, b8, b9, d0, d1, d2, d3, Q_HB, d4, d7, offA_ (hoff 7 (by kernel_rfl)), offA_ (hoff 8 (by kernel_rfl)), offA_ (hoff 13 (by kernel_rfl)), offA_ (hoff 14 (by kernel_rfl)), offA_ (hoff 18 (by kernel_rfl)), offA_ (hoff 19 (by kernel_rfl)), f4, offA_ (hoff 8 (by kernel_rfl)), offA_ (hoff 14 (by kernel_rfl)), offA_ (hoff 19 (by kernel_rfl))⟩
            refine yaq ?_ ?_
            ·
             rintro b a w' ⟨g4, h0, g5, h5, g8, h2, g9, h6, m3_, m8_, h7, h8, ha, a6, a7, a8, b7, b8, b9, d0, d1, d2, d3, Q_HB, d4, d7, d5, d8, d9, e2, e0, e7, f4, g2, f3, g3⟩ hb_ hon hoff
             refine ⟨_, rfl, fun K hK => ?_⟩; have e6 : a.tmps[6]? = some (.pointer (some ⟨f2, 0, none⟩)) := (by rw [ha]; exact (putSel_off rfl).trans rfl); replace ha := yaa ha; have a2 := yaa a6; have a3 := yaa a7; have a4 := yaa a8; have a9 := yaa b7; have a5 := yaa b8; have b4 := yaa b9; have b0 := yaa d0; have b1 := yaa d1; have b2 := yaa d2; have b3 := yaa d3; have HB := yaa Q_HB; obtain ⟨hc0_, hc1_, hc2_, hc3_, hc4_⟩ := cc5_ a5.out
             refine value_ (w1 := w') (v := .agg #[.int .i64 g6, .int .i64 i6, .int .i64 i7, .int .i64 j3, .int .i64 j4]) (by rfl) rfl ?_ ?_
             ·
              go_simp
              (try simp only [i64_w])
              try rfl
             refine hK.out _ _ ⟨g4, h0, g5, h5, g8, h2, g9, h6, m3_, m8_, h7, h8, (by rw [ha.out]; exact yar 6 hb_ rfl rfl rfl), a6, a7, a8, b7, b8, b9, d0, d1, d2, d3, Q_HB, d4, d7, offA_ (hoff 7 (by kernel_rfl)), offA_ (hoff 8 (by kernel_rfl)), offA_ (hoff 13 (by kernel_rfl)), offA_ (hoff 14 (by kernel_rfl)), offA_ (hoff 18 (by kernel_rfl)), offA_ (hoff 19 (by kernel_rfl)), f4, offA_ (hoff 8 (by kernel_rfl)), offA_ (hoff 14 (by kernel_rfl)), offA_ (hoff 19 (by kernel_rfl))⟩
            refine yaq ?_ ?_
            ·
             rintro b a w' ⟨g4, h0, g5, h5, g8, h2, g9, h6, m3_, m8_, h7, h8, ha, a6, a7, a8, b7, b8, b9, d0, d1, d2, d3, Q_HB, d4, d7, d5, d8, d9, e2, e0, e7, f4, g2, f3, g3⟩ hb_ hon hoff
             refine ⟨_, rfl, fun K hK => ?_⟩; have e86 : a.tmps[86]? = some (.agg #[.int .i64 5, .int .i64 0, .int .i64 0, .int .i64 0, .int .i64 0]) := (by rw [ha]; exact yam (e := (5, 86, .agg #[.int .i64 5, .int .i64 0, .int .i64 0, .int .i64 0, .int .i64 0])) 5 rfl rfl (hon 5 (by kernel_rfl)) rfl); have e87 : a.tmps[87]? = some (.agg #[.int .i64 g6, .int .i64 i6, .int .i64 i7, .int .i64 j3, .int .i64 j4]) := (by rw [ha]; exact yam (e := (6, 87, .agg #[.int .i64 g6, .int .i64 i6, .int .i64 i7, .int .i64 j3, .int .i64 j4])) 6 rfl rfl (hon 6 (by kernel_rfl)) rfl); replace ha := yaa ha; have a2 := yaa a6; have a3 := yaa a7; have a4 := yaa a8; have a9 := yaa b7; have a5 := yaa b8; have b4 := yaa b9; have b0 := yaa d0; have b1 := yaa d1; have b2 := yaa d2; have b3 := yaa d3; have HB := yaa Q_HB
             refine Kd.R_lit_step k27 _ 27 ?hg (N := 88) ?hd (xs := ([(⟨5, 0, 0, 0, 0⟩ : S27), (⟨g6, i6, i7, j3, j4⟩ : S27)] : List (S27))) (inner := [.int .i64 5, .int .i64 0, .int .i64 0, .int .i64 0, .int .i64 0, .int .i64 g6, .int .i64 i6, .int .i64 i7, .int .i64 j3, .int .i64 j4]) (ok := fun _ => True) (okp := fun _ => True) ?hr ?hp (fun _ hk => hk) trivial (Below.refl _ _) (Nat.le_refl _) (by simp) ?_; (case hd => rfl); (case hg => first | rfl | (simp [Region.wanted, yielded, *]; done)); (case hr => first | (go_simp; done) | (go_simp; rfl)); (case hp => exact (Reps.c5 (show Kd.M k27 _ _ _ (⟨5, 0, 0, 0, 0⟩ : S27) [.int .i64 5, .int .i64 0, .int .i64 0, .int .i64 0, .int .i64 0] from (k27_mkM _ _ _ (⟨5, 0, 0, 0, 0⟩ : S27) )) (Reps.c5 (show Kd.M k27 _ _ _ (⟨g6, i6, i7, j3, j4⟩ : S27) [.int .i64 g6, .int .i64 i6, .int .i64 i7, .int .i64 j3, .int .i64 j4] from (k27_mkM _ _ _ (⟨g6, i6, i7, j3, j4⟩ : S27) )) (Reps.none _ _))))
             intro g5 w139 l4 hb hg_ hnew_; clear hg_ hnew_
             (first | rw [← Ny145.out] at l4 | (simp only [Int.reduceToNat] at l4; rw [← Ny145.out] at l4))
             have n0_ := yaa (yaf (upQ a2.out) hb); have n1_ := yaa (yaf (upQ a3.out) hb); have n2_ := yaa (yaf (upQ a4.out) hb)
             have n3_ := yaa (Kd.R_lower (Kd.R_newB (Kd.R_newB (Kd.R_newB l4 (upB a5.out)) (upB b2.out)) (upB b3.out)) (yax (by repeat (with_reducible first | exact HB.out | refine oneH ?_ | refine yag ?_ (Aside0.out ‹_›)))))
             have n4_ := yaa (yae (upB a9.out) hb); have n5_ := yaa (yae (upB a5.out) hb); have n6_ := yaa (yae (upB b4.out) hb); have n7_ := yaa (yae (upB b0.out) hb); have n8_ := yaa (yae (upB b1.out) hb); have n9_ := yaa (yae (upB b2.out) hb); have k1 := yaa (yae (upB b3.out) hb)
             have k8 := yaa (yal (by repeat (with_reducible first | exact HB.out | refine oneH ?_ | refine yag ?_ (Aside0.out ‹_›))) hb)
             have L5 := fun (h0_ : b 2 = true) => (show Kd.R k27 27 w139 w.heap.size (fun k_ => k_ ≠ f2 ∧ k_ ≠ e9 ∧ k_ ≠ b6) g4 y137 from by first | exact (ybe (by (with_reducible repeat (first | apply yai | apply yaj | apply yak)); exact (d4 h0_)) (yav l4) hb) | exact yao (ybe (by (with_reducible repeat (first | apply yai | apply yaj | apply yak)); exact (d4 h0_)) (yav l4) hb) (fun _ h_ => by first | trivial | exact h_ | exact h_.1))
             have L6 := fun (h0_ : b 3 = true) => (show Kd.V k36 36 w139 w.heap.size (fun k_ => some k_ ≠ (.slice i1 g0.length h4 : Value).ownBlock ∧ some k_ ≠ (.slice i5 g7.length i3 : Value).ownBlock ∧ k_ ≠ h3 ∧ k_ ≠ f2 ∧ k_ ≠ e1 ∧ k_ ≠ f7 ∧ k_ ≠ e3 ∧ k_ ≠ e9 ∧ k_ ≠ b6) h0 B5 from by first | exact (Kd.V_elder' (by (with_reducible repeat (first | apply Kd.V_alloc | apply Kd.V_drewN | apply Kd.V_drew)); exact (d7 h0_)) (yav l4) hb) | exact Kd.V_mono (Kd.V_elder' (by (with_reducible repeat (first | apply Kd.V_alloc | apply Kd.V_drewN | apply Kd.V_drew)); exact (d7 h0_)) (yav l4) hb) (fun _ h_ => by first | trivial | exact h_ | exact h_.1))
             clear a2; clear a3; clear a4; clear a9; clear a5; clear b4; clear b0; clear b1; clear b2; clear b3; clear HB; have a2 := n0_; have a3 := n1_; have a4 := n2_; have d6 := n3_; have a9 := n4_; have a5 := n5_; have b4 := n6_; have b0 := n7_; have b1 := n8_; have b2 := n9_; have b3 := k1; have HB := k8; clear n0_ n1_ n2_ n3_ n4_ n5_ n6_ n7_ n8_ n9_ k1 k8; clear hb l4
             refine hK.out _ _ ⟨g4, h0, g5, h5, g8, h2, g9, h6, m3_, m8_, h7, h8, (by rw [ha.out]; exact yar 7 hb_ rfl rfl rfl), (upQ a2.out), (upQ a3.out), (upQ a4.out), (upB a9.out), (upB a5.out), (upB b4.out), (upB b0.out), (upB b1.out), (upB b2.out), (upB b3.out), (by repeat (with_reducible first | exact HB.out | refine oneH ?_ | refine yag ?_ (Aside0.out ‹_›))), L5, L6, fun _ => (by (with_reducible repeat (first | apply yai | apply yaj | apply yak)); exact yao d6.out (fun _ hk => by grind)), offA_ (hoff 8 (by kernel_rfl)), offA_ (hoff 13 (by kernel_rfl)), offA_ (hoff 14 (by kernel_rfl)), offA_ (hoff 18 (by kernel_rfl)), offA_ (hoff 19 (by kernel_rfl)), f4, offA_ (hoff 8 (by kernel_rfl)), offA_ (hoff 14 (by kernel_rfl)), offA_ (hoff 19 (by kernel_rfl))⟩
            refine yaq ?_ ?_
            ·
             rintro b a w' ⟨g4, h0, g5, h5, g8, h2, g9, h6, m3_, m8_, h7, h8, ha, a6, a7, a8, b7, b8, b9, d0, d1, d2, d3, Q_HB, d4, d7, d5, d8, d9, e2, e0, e7, f4, g2, f3, g3⟩ hb_ hon hoff
             refine ⟨_, rfl, fun K hK => ?_⟩; have e85 : a.tmps[85]? = some (.agg #[.int .i64 k0, .int .i64 k2, .slice i1 g0.length h4]) := (by rw [ha]; exact yam (e := (4, 85, .agg #[.int .i64 k0, .int .i64 k2, .slice i1 g0.length h4])) 4 rfl rfl (hon 4 (by kernel_rfl)) rfl); have e88 : a.tmps[88]? = some (g5) := (by rw [ha]; exact yam (e := (7, 88, g5)) 7 rfl rfl (hon 7 (by kernel_rfl)) rfl); replace ha := yaa ha; have a2 := yaa a6; have a3 := yaa a7; have a4 := yaa a8; have a9 := yaa b7; have a5 := yaa b8; have b4 := yaa b9; have b0 := yaa d0; have b1 := yaa d1; have b2 := yaa d2; have b3 := yaa d3; have HB := yaa Q_HB; have b5 := yaa (d4 (hon 2 (by kernel_rfl))); have f0 := yaa (d7 (hon 3 (by kernel_rfl))); have d6 := yaa (d5 (hon 7 (by kernel_rfl))); obtain ⟨F9, G0, N0⟩ := Kd.R_slice d6.out
             (first | subst N0 | (injection N0 with f1_ f2_ f3_; have f4_ := f1_.symm; have f5_ := f3_.symm; clear f1_ f2_ f3_; subst f4_; subst f5_))
             refine goes_ Try.func15 (by kernel_rfl) rfl #[.agg #[.int .i64 k0, .int .i64 k2, .slice i1 g0.length h4], .slice F9 y145.length G0] (by first | rfl | (simp [Region.wanted, yielded, *]; done)) rfl rfl (by first | (simp only [List.map_toArray, List.map_cons, List.map_nil, Act.eval, Array.getD_eq_getD_getElem?, Option.getD_some, e85, e88]; done) | (simp only [List.map_toArray, List.map_cons, List.map_nil, Act.eval, Array.getD_eq_getD_getElem?, Option.getD_some, e85, e88]; rfl)) ?_
             with_reducible refine (laws_eaDo.calls kj64 k0 k2 (fun k_ => some k_ = (.slice i1 g0.length h4 : Value).ownBlock) _ _ g0 _ _ y145 E9 F0 F1 _ ?side1 ?side2 ?side3 U1.out).mono ?_
             (case side1 => exact Kd.Q_V (Kd.Q_tight rfl (yab (yab (yab (yab (yab (yab (yac (yac (a2.out) (yad b5.out) (by decide)) (yad d6.out) (by decide)) a9.out (by decide)) a5.out (by decide)) b0.out (by decide)) b1.out (by decide)) b2.out (by decide)) b3.out (by decide))))
             (case side2 => repeat (first | exact (yaw d6.out).2.2 | (with_reducible refine Kd.C_alloc ?_ _) | (with_reducible refine Kd.C_drewN ?_ _) | (with_reducible refine Kd.C_drew ?_)))
             (case side3 => exact (yaw d6.out).2.1)
             rintro e w147 ⟨h5, rfl, ho0, hb⟩; refine ⟨_, rfl, ?_⟩; have n0_ := yaa (yaf (upQ a2.out) hb); have n1_ := yaa (yaf (upQ a3.out) hb); have n2_ := yaa (yaf (upQ a4.out) hb); have n3_ := yaa (yan (upR b5.out) hb); have n4_ := yaa (Kd.V_below (upV f0.out) hb); have n5_ := yaa (yan (upR d6.out) hb)
             have n6_ := yaa (Kd.V_lower (Kd.V_mono (ok' := fun k_ => some k_ ≠ (.slice i2 g1.length h9 : Value).ownBlock ∧ some k_ ≠ (.slice i5 g7.length i3 : Value).ownBlock ∧ some k_ ≠ (g4 : Value).ownBlock ∧ some k_ ≠ (.slice F9 y145.length G0 : Value).ownBlock ∧ k_ ≠ h3 ∧ k_ ≠ f2 ∧ k_ ≠ e1 ∧ k_ ≠ f7 ∧ k_ ≠ e3 ∧ k_ ≠ e9 ∧ k_ ≠ b6) ho0 (fun k_ hk_ => ⟨Or.elim hk_ (fun hs_ => ((yab (yab (yab (yab (yab (yab (yac (yac (a2.out) (yad b5.out) (by decide)) (yad d6.out) (by decide)) a9.out (by decide)) a5.out (by decide)) b0.out (by decide)) b1.out (by decide)) b2.out (by decide)) b3.out (by decide)).1 k_ hs_.symm).1.1.1.1.1.1.1.1.1) (fun hn_ => (ybd (Kd.Q_lt (upQ a3.out)) k_ hn_)), Or.elim hk_ (fun hs_ => ((yab (yab (yab (yab (yab (yab (yac (yac (a2.out) (yad b5.out) (by decide)) (yad d6.out) (by decide)) a9.out (by decide)) a5.out (by decide)) b0.out (by decide)) b1.out (by decide)) b2.out (by decide)) b3.out (by decide)).1 k_ hs_.symm).1.1.1.1.1.1.1.1.2.1) (fun hn_ => (ybd (Kd.Q_lt (upQ a4.out)) k_ hn_)), Or.elim hk_ (fun hs_ => ((yab (yab (yab (yab (yab (yab (yac (yac (a2.out) (yad b5.out) (by decide)) (yad d6.out) (by decide)) a9.out (by decide)) a5.out (by decide)) b0.out (by decide)) b1.out (by decide)) b2.out (by decide)) b3.out (by decide)).1 k_ hs_.symm).1.1.1.1.1.1.1.2) (fun hn_ => (ybd (Kd.R_lt (upR b5.out)) k_ hn_)), Or.elim hk_ (fun hs_ => ((yab (yab (yab (yab (yab (yab (yac (yac (a2.out) (yad b5.out) (by decide)) (yad d6.out) (by decide)) a9.out (by decide)) a5.out (by decide)) b0.out (by decide)) b1.out (by decide)) b2.out (by decide)) b3.out (by decide)).1 k_ hs_.symm).1.1.1.1.1.1.2) (fun hn_ => (ybd (Kd.R_lt (upR d6.out)) k_ hn_)), Or.elim hk_ (fun hs_ => ((yab (yab (yab (yab (yab (yab (yac (yac (a2.out) (yad b5.out) (by decide)) (yad d6.out) (by decide)) a9.out (by decide)) a5.out (by decide)) b0.out (by decide)) b1.out (by decide)) b2.out (by decide)) b3.out (by decide)).1 k_ hs_.symm).1.1.1.1.1.2) (fun hn_ => (yap (upB a9.out) k_ hn_)), Or.elim hk_ (fun hs_ => ((yab (yab (yab (yab (yab (yab (yac (yac (a2.out) (yad b5.out) (by decide)) (yad d6.out) (by decide)) a9.out (by decide)) a5.out (by decide)) b0.out (by decide)) b1.out (by decide)) b2.out (by decide)) b3.out (by decide)).1 k_ hs_.symm).1.1.1.1.2) (fun hn_ => (yap (upB a5.out) k_ hn_)), Or.elim hk_ (fun hs_ => ((yab (yab (yab (yab (yab (yab (yac (yac (a2.out) (yad b5.out) (by decide)) (yad d6.out) (by decide)) a9.out (by decide)) a5.out (by decide)) b0.out (by decide)) b1.out (by decide)) b2.out (by decide)) b3.out (by decide)).1 k_ hs_.symm).1.1.1.1.1.1.1.1.2.2) (fun hn_ => (yap (upB b4.out) k_ hn_)), Or.elim hk_ (fun hs_ => ((yab (yab (yab (yab (yab (yab (yac (yac (a2.out) (yad b5.out) (by decide)) (yad d6.out) (by decide)) a9.out (by decide)) a5.out (by decide)) b0.out (by decide)) b1.out (by decide)) b2.out (by decide)) b3.out (by decide)).1 k_ hs_.symm).1.1.1.2) (fun hn_ => (yap (upB b0.out) k_ hn_)), Or.elim hk_ (fun hs_ => ((yab (yab (yab (yab (yab (yab (yac (yac (a2.out) (yad b5.out) (by decide)) (yad d6.out) (by decide)) a9.out (by decide)) a5.out (by decide)) b0.out (by decide)) b1.out (by decide)) b2.out (by decide)) b3.out (by decide)).1 k_ hs_.symm).1.1.2) (fun hn_ => (yap (upB b1.out) k_ hn_)), Or.elim hk_ (fun hs_ => ((yab (yab (yab (yab (yab (yab (yac (yac (a2.out) (yad b5.out) (by decide)) (yad d6.out) (by decide)) a9.out (by decide)) a5.out (by decide)) b0.out (by decide)) b1.out (by decide)) b2.out (by decide)) b3.out (by decide)).1 k_ hs_.symm).1.2) (fun hn_ => (yap (upB b2.out) k_ hn_)), Or.elim hk_ (fun hs_ => ((yab (yab (yab (yab (yab (yab (yac (yac (a2.out) (yad b5.out) (by decide)) (yad d6.out) (by decide)) a9.out (by decide)) a5.out (by decide)) b0.out (by decide)) b1.out (by decide)) b2.out (by decide)) b3.out (by decide)).1 k_ hs_.symm).2) (fun hn_ => (yap (upB b3.out) k_ hn_))⟩)) (yax (by repeat (with_reducible first | exact HB.out | refine oneH ?_ | refine yag ?_ (Aside0.out ‹_›)))))
             have n7_ := yaa (yae (upB a9.out) hb); have n8_ := yaa (yae (upB a5.out) hb); have n9_ := yaa (yae (upB b4.out) hb); have k1 := yaa (yae (upB b0.out) hb); have k8 := yaa (yae (upB b1.out) hb); have m3 := yaa (yae (upB b2.out) hb); have m7 := yaa (yae (upB b3.out) hb)
             have m8 := yaa (yal (by repeat (with_reducible first | exact HB.out | refine oneH ?_ | refine yag ?_ (Aside0.out ‹_›))) hb)
             clear a2; clear a3; clear a4; clear b5; clear f0; clear d6; clear a9; clear a5; clear b4; clear b0; clear b1; clear b2; clear b3; clear HB; have a2 := n0_; have a3 := n1_; have a4 := n2_; have b5 := n3_; have f0 := n4_; have d6 := n5_; have f8 := n6_; have a9 := n7_; have a5 := n8_; have b4 := n9_; have b0 := k1; have b1 := k8; have b2 := m3; have b3 := m7; have HB := m8; clear n0_ n1_ n2_ n3_ n4_ n5_ n6_ n7_ n8_ n9_ k1 k8 m3 m7 m8; (try clear hb); (try clear hb2); (try clear hk); (try clear hi); (try clear ho0)
             refine hK.out _ _ ⟨g4, h0, .slice F9 y145.length G0, h5, g8, h2, g9, h6, m3_, (.agg #[.int .i64 E9, .int .i64 F0, h5]), h7, h8, (by rw [ha.out]; exact yar 8 hb_ rfl rfl rfl), (upQ a2.out), (upQ a3.out), (upQ a4.out), (upB a9.out), (upB a5.out), (upB b4.out), (upB b0.out), (upB b1.out), (upB b2.out), (upB b3.out), (by repeat (with_reducible first | exact HB.out | refine oneH ?_ | refine yag ?_ (Aside0.out ‹_›))), fun _ => (upR b5.out), fun _ => (upV f0.out), fun _ => (upR d6.out), fun _ => (by (with_reducible repeat (first | apply Kd.V_alloc | apply Kd.V_drewN | apply Kd.V_drew)); exact Kd.V_mono f8.out (fun _ hk => by grind)), offA_ (hoff 13 (by kernel_rfl)), offA_ (hoff 14 (by kernel_rfl)), offA_ (hoff 18 (by kernel_rfl)), offA_ (hoff 19 (by kernel_rfl)), f4, fun _ => rfl, offA_ (hoff 14 (by kernel_rfl)), offA_ (hoff 19 (by kernel_rfl))⟩
            refine yaq ?_ ?_
            ·
             rintro b a w' ⟨g4, h0, g5, h5, g8, h2, g9, h6, m3_, m8_, h7, h8, ha, a6, a7, a8, b7, b8, b9, d0, d1, d2, d3, Q_HB, d4, d7, d5, d8, d9, e2, e0, e7, f4, g2, f3, g3⟩ hb_ hon hoff
             refine ⟨_, rfl, fun K hK => ?_⟩; have e84 : a.tmps[84]? = some (m3_) := (by rw [ha]; exact yam (e := (3, 84, m3_)) 3 rfl rfl (hon 3 (by kernel_rfl)) rfl)
             rw [f4 (hon 3 (by kernel_rfl))] at e84
             have e89 : a.tmps[89]? = some (m8_) := (by rw [ha]; exact yam (e := (8, 89, m8_)) 8 rfl rfl (hon 8 (by kernel_rfl)) rfl)
             rw [g2 (hon 8 (by kernel_rfl))] at e89
             replace ha := yaa ha; have a2 := yaa a6; have a3 := yaa a7; have a4 := yaa a8; have a9 := yaa b7; have a5 := yaa b8; have b4 := yaa b9; have b0 := yaa d0; have b1 := yaa d1; have b2 := yaa d2; have b3 := yaa d3; have HB := yaa Q_HB; have b5 := yaa (d4 (hon 2 (by kernel_rfl))); have f0 := yaa (d7 (hon 3 (by kernel_rfl))); have d6 := yaa (d5 (hon 7 (by kernel_rfl))); have f8 := yaa (d8 (hon 8 (by kernel_rfl))); obtain ⟨N1, N2, N3⟩ := Kd.V_slice f0.out
             (first | subst N3 | (injection N3 with f1_ f2_ f3_; have f4_ := f1_.symm; have f5_ := f3_.symm; clear f1_ f2_ f3_; subst f4_; subst f5_))
             obtain ⟨N4, N5, N6⟩ := Kd.V_slice f8.out
             (first | subst N6 | (injection N6 with f1_ f2_ f3_; have f4_ := f1_.symm; have f5_ := f3_.symm; clear f1_ f2_ f3_; subst f4_; subst f5_))
             refine goes_ Try.func13 (by kernel_rfl) rfl #[.agg #[.int .i64 E7, .int .i64 E8, .slice N1 B5.length N2], .agg #[.int .i64 E9, .int .i64 F0, .slice N4 F1.length N5]] (by first | rfl | (simp [Region.wanted, yielded, *]; done)) rfl rfl (by first | (simp only [List.map_toArray, List.map_cons, List.map_nil, Act.eval, Array.getD_eq_getD_getElem?, Option.getD_some, e84, e89]; done) | (simp only [List.map_toArray, List.map_cons, List.map_nil, Act.eval, Array.getD_eq_getD_getElem?, Option.getD_some, e84, e89]; rfl)) ?_
             with_reducible refine (laws_eaRas.calls kj64 E7 E8 _ _ B5 E9 F0 _ _ F1 true _ ?side1 ?side2 ?side3 ?side4 U3.out).mono ?_
             (case side1 => repeat (first | exact (Kd.V_reads' f0.out).2.2 | (with_reducible refine Kd.C_alloc ?_ _) | (with_reducible refine Kd.C_drewN ?_ _) | (with_reducible refine Kd.C_drew ?_)))
             (case side2 => exact (Kd.V_reads' f0.out).2.1)
             (case side3 => repeat (first | exact (Kd.V_reads' f8.out).2.2 | (with_reducible refine Kd.C_alloc ?_ _) | (with_reducible refine Kd.C_drewN ?_ _) | (with_reducible refine Kd.C_drew ?_)))
             (case side4 => exact (Kd.V_reads' f8.out).2.1)
             rintro e w150 ⟨rfl, hb⟩; refine ⟨_, rfl, ?_⟩; have n0_ := yaa (yaf (upQ a2.out) hb); have n1_ := yaa (yaf (upQ a3.out) hb); have n2_ := yaa (yaf (upQ a4.out) hb); have n3_ := yaa (yan (upR b5.out) hb); have n4_ := yaa (Kd.V_below (upV f0.out) hb); have n5_ := yaa (yan (upR d6.out) hb); have n6_ := yaa (Kd.V_below (upV f8.out) hb); have n7_ := yaa (yae (upB a9.out) hb); have n8_ := yaa (yae (upB a5.out) hb); have n9_ := yaa (yae (upB b4.out) hb); have k1 := yaa (yae (upB b0.out) hb); have k8 := yaa (yae (upB b1.out) hb); have m3 := yaa (yae (upB b2.out) hb); have m7 := yaa (yae (upB b3.out) hb)
             have m8 := yaa (yal (by repeat (with_reducible first | exact HB.out | refine oneH ?_ | refine yag ?_ (Aside0.out ‹_›))) hb)
             clear a2; clear a3; clear a4; clear b5; clear f0; clear d6; clear f8; clear a9; clear a5; clear b4; clear b0; clear b1; clear b2; clear b3; clear HB; have a2 := n0_; have a3 := n1_; have a4 := n2_; have b5 := n3_; have f0 := n4_; have d6 := n5_; have f8 := n6_; have a9 := n7_; have a5 := n8_; have b4 := n9_; have b0 := k1; have b1 := k8; have b2 := m3; have b3 := m7; have HB := m8; clear n0_ n1_ n2_ n3_ n4_ n5_ n6_ n7_ n8_ n9_ k1 k8 m3 m7 m8; (try clear hb); (try clear hb2); (try clear hk); (try clear hi)
             refine hK.out _ _ ⟨g4, .slice N1 B5.length N2, g5, .slice N4 F1.length N5, g8, h2, g9, h6, m3_, m8_, h7, h8, (by rw [ha.out]; exact yar 9 hb_ rfl rfl rfl), (upQ a2.out), (upQ a3.out), (upQ a4.out), (upB a9.out), (upB a5.out), (upB b4.out), (upB b0.out), (upB b1.out), (upB b2.out), (upB b3.out), (by repeat (with_reducible first | exact HB.out | refine oneH ?_ | refine yag ?_ (Aside0.out ‹_›))), fun _ => (upR b5.out), fun _ => (upV f0.out), fun _ => (upR d6.out), fun _ => (upV f8.out), offA_ (hoff 13 (by kernel_rfl)), offA_ (hoff 14 (by kernel_rfl)), offA_ (hoff 18 (by kernel_rfl)), offA_ (hoff 19 (by kernel_rfl)), f4, g2, offA_ (hoff 14 (by kernel_rfl)), offA_ (hoff 19 (by kernel_rfl))⟩
            refine yaq ?_ ?_
            ·
             rintro b a w' ⟨g4, h0, g5, h5, g8, h2, g9, h6, m3_, m8_, h7, h8, ha, a6, a7, a8, b7, b8, b9, d0, d1, d2, d3, Q_HB, d4, d7, d5, d8, d9, e2, e0, e7, f4, g2, f3, g3⟩ hb_ hon hoff
             refine ⟨_, rfl, fun K hK => ?_⟩; have e90 : a.tmps[90]? = some (.bool true) := (by rw [ha]; exact yam (e := (9, 90, .bool true)) 9 rfl rfl (hon 9 (by kernel_rfl)) rfl); replace ha := yaa ha; have a2 := yaa a6; have a3 := yaa a7; have a4 := yaa a8; have a9 := yaa b7; have a5 := yaa b8; have b4 := yaa b9; have b0 := yaa d0; have b1 := yaa d1; have b2 := yaa d2; have b3 := yaa d3; have HB := yaa Q_HB; have b5 := yaa (d4 (hon 2 (by kernel_rfl))); have f0 := yaa (d7 (hon 3 (by kernel_rfl))); have d6 := yaa (d5 (hon 7 (by kernel_rfl))); have f8 := yaa (d8 (hon 8 (by kernel_rfl)))
             refine value_ (w1 := w') (v := .bool true) (by rfl) rfl ?_ ?_
             ·
              go_simp
              (try simp only [i64_w])
              try rfl
             refine hK.out _ _ ⟨g4, h0, g5, h5, g8, h2, g9, h6, m3_, m8_, h7, h8, (by rw [ha.out]; exact yar 10 hb_ rfl rfl rfl), a6, a7, a8, b7, b8, b9, d0, d1, d2, d3, Q_HB, d4, d7, d5, d8, offA_ (hoff 13 (by kernel_rfl)), offA_ (hoff 14 (by kernel_rfl)), offA_ (hoff 18 (by kernel_rfl)), offA_ (hoff 19 (by kernel_rfl)), f4, g2, offA_ (hoff 14 (by kernel_rfl)), offA_ (hoff 19 (by kernel_rfl))⟩
            refine yaq ?_ ?_
            ·
             rintro b a w' ⟨g4, h0, g5, h5, g8, h2, g9, h6, m3_, m8_, h7, h8, ha, a6, a7, a8, b7, b8, b9, d0, d1, d2, d3, Q_HB, d4, d7, d5, d8, d9, e2, e0, e7, f4, g2, f3, g3⟩ hb_ hon hoff
             refine ⟨_, rfl, fun K hK => ?_⟩; have e8 : a.tmps[8]? = some (.pointer (some ⟨f7, 0, none⟩)) := (by rw [ha]; exact (putSel_off rfl).trans rfl); have e91 : a.tmps[91]? = some (.bool true) := (by rw [ha]; exact yam (e := (10, 91, .bool true)) 10 rfl rfl (hon 10 (by kernel_rfl)) rfl); replace ha := yaa ha; have a2 := yaa a6; have a3 := yaa a7; have a4 := yaa a8; have a9 := yaa b7; have a5 := yaa b8; have b4 := yaa b9; have b0 := yaa d0; have b1 := yaa d1; have b2 := yaa d2; have b3 := yaa d3; have HB := yaa Q_HB; have b5 := yaa (d4 (hon 2 (by kernel_rfl))); have f0 := yaa (d7 (hon 3 (by kernel_rfl))); have d6 := yaa (d5 (hon 7 (by kernel_rfl))); have f8 := yaa (d8 (hon 8 (by kernel_rfl))); obtain ⟨hc0_, hc1_, hc2_⟩ := cc3_ b0.out
             refine value_ (w1 := w') (v := .agg #[.int .i64 j7, .int .i64 j8, .slice i2 g1.length h9]) (wanted_on rfl rfl rfl (e91.trans (by first | rfl | (simp [*]; done)))) rfl ?_ ?_
             ·
              go_simp
              (try simp only [i64_w])
              try rfl
             refine hK.out _ _ ⟨g4, h0, g5, h5, g8, h2, g9, h6, m3_, m8_, h7, h8, (by rw [ha.out]; exact yar 11 hb_ rfl rfl rfl), a6, a7, a8, b7, b8, b9, d0, d1, d2, d3, Q_HB, d4, d7, d5, d8, d9, offA_ (hoff 14 (by kernel_rfl)), e0, offA_ (hoff 19 (by kernel_rfl)), f4, g2, offA_ (hoff 14 (by kernel_rfl)), offA_ (hoff 19 (by kernel_rfl))⟩
            refine yaq ?_ ?_
            ·
             rintro b a w' ⟨g4, h0, g5, h5, g8, h2, g9, h6, m3_, m8_, h7, h8, ha, a6, a7, a8, b7, b8, b9, d0, d1, d2, d3, Q_HB, d4, d7, d5, d8, d9, e2, e0, e7, f4, g2, f3, g3⟩ hb_ hon hoff
             refine ⟨_, rfl, fun K hK => ?_⟩; have e13 : a.tmps[13]? = some (.pointer (some ⟨b6, 0, none⟩)) := (by rw [ha]; exact (putSel_off rfl).trans rfl); have e91 : a.tmps[91]? = some (.bool true) := (by rw [ha]; exact yam (e := (10, 91, .bool true)) 10 rfl rfl (hon 10 (by kernel_rfl)) rfl); replace ha := yaa ha; have a2 := yaa a6; have a3 := yaa a7; have a4 := yaa a8; have a9 := yaa b7; have a5 := yaa b8; have b4 := yaa b9; have b0 := yaa d0; have b1 := yaa d1; have b2 := yaa d2; have b3 := yaa d3; have HB := yaa Q_HB; have b5 := yaa (d4 (hon 2 (by kernel_rfl))); have f0 := yaa (d7 (hon 3 (by kernel_rfl))); have d6 := yaa (d5 (hon 7 (by kernel_rfl))); have f8 := yaa (d8 (hon 8 (by kernel_rfl))); obtain ⟨hc0_, hc1_, hc2_, hc3_, hc4_⟩ := cc5_ b3.out
             refine value_ (w1 := w') (v := .agg #[.int .i64 8, .int .i64 f1, .int .i64 f5, .int .i64 f9, .int .i64 0]) (wanted_on rfl rfl rfl (e91.trans (by first | rfl | (simp [*]; done)))) rfl ?_ ?_
             ·
              go_simp
              (try simp only [i64_w])
              try rfl
             refine hK.out _ _ ⟨g4, h0, g5, h5, g8, h2, g9, h6, m3_, m8_, h7, h8, (by rw [ha.out]; exact yar 12 hb_ rfl rfl rfl), a6, a7, a8, b7, b8, b9, d0, d1, d2, d3, Q_HB, d4, d7, d5, d8, offA_ (hoff 13 (by kernel_rfl)), offA_ (hoff 14 (by kernel_rfl)), e0, offA_ (hoff 19 (by kernel_rfl)), f4, g2, offA_ (hoff 14 (by kernel_rfl)), offA_ (hoff 19 (by kernel_rfl))⟩
            refine yaq ?_ ?_
            ·
             rintro b a w' ⟨g4, h0, g5, h5, g8, h2, g9, h6, m3_, m8_, h7, h8, ha, a6, a7, a8, b7, b8, b9, d0, d1, d2, d3, Q_HB, d4, d7, d5, d8, d9, e2, e0, e7, f4, g2, f3, g3⟩ hb_ hon hoff
             refine ⟨_, rfl, fun K hK => ?_⟩; have e93 : a.tmps[93]? = some (.agg #[.int .i64 8, .int .i64 f1, .int .i64 f5, .int .i64 f9, .int .i64 0]) := (by rw [ha]; exact yam (e := (12, 93, .agg #[.int .i64 8, .int .i64 f1, .int .i64 f5, .int .i64 f9, .int .i64 0])) 12 rfl rfl (hon 12 (by kernel_rfl)) rfl); have e91 : a.tmps[91]? = some (.bool true) := (by rw [ha]; exact yam (e := (10, 91, .bool true)) 10 rfl rfl (hon 10 (by kernel_rfl)) rfl); replace ha := yaa ha; have a2 := yaa a6; have a3 := yaa a7; have a4 := yaa a8; have a9 := yaa b7; have a5 := yaa b8; have b4 := yaa b9; have b0 := yaa d0; have b1 := yaa d1; have b2 := yaa d2; have b3 := yaa d3; have HB := yaa Q_HB; have b5 := yaa (d4 (hon 2 (by kernel_rfl))); have f0 := yaa (d7 (hon 3 (by kernel_rfl))); have d6 := yaa (d5 (hon 7 (by kernel_rfl))); have f8 := yaa (d8 (hon 8 (by kernel_rfl)))
             refine Kd.R_lit_step k27 _ 27 ?hg (N := 94) ?hd (xs := ([(⟨8, f1, f5, f9, 0⟩ : S27)] : List (S27))) (inner := [.int .i64 8, .int .i64 f1, .int .i64 f5, .int .i64 f9, .int .i64 0]) (ok := fun _ => True) (okp := fun _ => True) ?hr ?hp (fun _ hk => hk) trivial (Below.refl _ _) (Nat.le_refl _) (by simp) ?_; (case hd => rfl); (case hg => first | rfl | (simp [Region.wanted, yielded, *]; done)); (case hr => first | (go_simp; done) | (go_simp; rfl)); (case hp => exact (Reps.c5 (show Kd.M k27 _ _ _ (⟨8, f1, f5, f9, 0⟩ : S27) [.int .i64 8, .int .i64 f1, .int .i64 f5, .int .i64 f9, .int .i64 0] from (k27_mkM _ _ _ (⟨8, f1, f5, f9, 0⟩ : S27) )) (Reps.none _ _)))
             intro g8 w151 j5 hb hg_ hnew_; clear hg_ hnew_
             (first | rw [← Ny154.out] at j5 | (simp only [Int.reduceToNat] at j5; rw [← Ny154.out] at j5))
             have n0_ := yaa (yaf (upQ a2.out) hb); have n1_ := yaa (yaf (upQ a3.out) hb); have n2_ := yaa (yaf (upQ a4.out) hb); have n3_ := yaa (ybe (upR b5.out) (yav j5) hb); have n4_ := yaa (Kd.V_elder' (upV f0.out) (yav j5) hb); have n5_ := yaa (ybe (upR d6.out) (yav j5) hb); have n6_ := yaa (Kd.V_elder' (upV f8.out) (yav j5) hb)
             have n7_ := yaa (Kd.R_lower (Kd.R_newB (Kd.R_newB (Kd.R_newB (Kd.R_new' (Kd.R_new' j5 (Kd.R_lt (upR b5.out))) (Kd.R_lt (upR d6.out))) (upB a5.out)) (upB b2.out)) (upB b3.out)) (yax (by repeat (with_reducible first | exact HB.out | refine oneH ?_ | refine yag ?_ (Aside0.out ‹_›)))))
             have n8_ := yaa (yae (upB a9.out) hb); have n9_ := yaa (yae (upB a5.out) hb); have k1 := yaa (yae (upB b4.out) hb); have k8 := yaa (yae (upB b0.out) hb); have m3 := yaa (yae (upB b1.out) hb); have m7 := yaa (yae (upB b2.out) hb); have m8 := yaa (yae (upB b3.out) hb)
             have n5 := yaa (yal (by repeat (with_reducible first | exact HB.out | refine oneH ?_ | refine yag ?_ (Aside0.out ‹_›))) hb)
             have p4 := fun (h0_ : b 18 = true) => (show Kd.R k27 27 w151 w.heap.size (fun k_ => k_ ≠ f2 ∧ k_ ≠ e9 ∧ k_ ≠ b6) g9 y162 from by first | exact (ybe (by (with_reducible repeat (first | apply yai | apply yaj | apply yak)); exact (e0 h0_)) (yav j5) hb) | exact yao (ybe (by (with_reducible repeat (first | apply yai | apply yaj | apply yak)); exact (e0 h0_)) (yav j5) hb) (fun _ h_ => by first | trivial | exact h_ | exact h_.1))
             clear a2; clear a3; clear a4; clear b5; clear f0; clear d6; clear f8; clear a9; clear a5; clear b4; clear b0; clear b1; clear b2; clear b3; clear HB; have a2 := n0_; have a3 := n1_; have a4 := n2_; have b5 := n3_; have f0 := n4_; have d6 := n5_; have f8 := n6_; have e4 := n7_; have a9 := n8_; have a5 := n9_; have b4 := k1; have b0 := k8; have b1 := m3; have b2 := m7; have b3 := m8; have HB := n5; clear n0_ n1_ n2_ n3_ n4_ n5_ n6_ n7_ n8_ n9_ k1 k8 m3 m7 m8 n5; clear hb j5
             refine hK.out _ _ ⟨g4, h0, g5, h5, g8, h2, g9, h6, m3_, m8_, h7, h8, (by rw [ha.out]; exact yar 13 hb_ rfl rfl rfl), (upQ a2.out), (upQ a3.out), (upQ a4.out), (upB a9.out), (upB a5.out), (upB b4.out), (upB b0.out), (upB b1.out), (upB b2.out), (upB b3.out), (by repeat (with_reducible first | exact HB.out | refine oneH ?_ | refine yag ?_ (Aside0.out ‹_›))), fun _ => (by (with_reducible repeat (first | apply yai | apply yaj | apply yak)); exact yao b5.out (fun _ hk => by grind)), fun _ => (by (with_reducible repeat (first | apply Kd.V_alloc | apply Kd.V_drewN | apply Kd.V_drew)); exact Kd.V_mono f0.out (fun _ hk => by grind)), fun _ => (by (with_reducible repeat (first | apply yai | apply yaj | apply yak)); exact yao d6.out (fun _ hk => by grind)), fun _ => (by (with_reducible repeat (first | apply Kd.V_alloc | apply Kd.V_drewN | apply Kd.V_drew)); exact Kd.V_mono f8.out (fun _ hk => by grind)), fun _ => (by (with_reducible repeat (first | apply yai | apply yaj | apply yak)); exact yao e4.out (fun _ hk => by grind)), offA_ (hoff 14 (by kernel_rfl)), p4, offA_ (hoff 19 (by kernel_rfl)), f4, g2, offA_ (hoff 14 (by kernel_rfl)), offA_ (hoff 19 (by kernel_rfl))⟩
            refine yaq ?_ ?_
            ·
             rintro b a w' ⟨g4, h0, g5, h5, g8, h2, g9, h6, m3_, m8_, h7, h8, ha, a6, a7, a8, b7, b8, b9, d0, d1, d2, d3, Q_HB, d4, d7, d5, d8, d9, e2, e0, e7, f4, g2, f3, g3⟩ hb_ hon hoff
             refine ⟨_, rfl, fun K hK => ?_⟩; have e92 : a.tmps[92]? = some (.agg #[.int .i64 j7, .int .i64 j8, .slice i2 g1.length h9]) := (by rw [ha]; exact yam (e := (11, 92, .agg #[.int .i64 j7, .int .i64 j8, .slice i2 g1.length h9])) 11 rfl rfl (hon 11 (by kernel_rfl)) rfl); have e94 : a.tmps[94]? = some (g8) := (by rw [ha]; exact yam (e := (13, 94, g8)) 13 rfl rfl (hon 13 (by kernel_rfl)) rfl); have e91 : a.tmps[91]? = some (.bool true) := (by rw [ha]; exact yam (e := (10, 91, .bool true)) 10 rfl rfl (hon 10 (by kernel_rfl)) rfl); replace ha := yaa ha; have a2 := yaa a6; have a3 := yaa a7; have a4 := yaa a8; have a9 := yaa b7; have a5 := yaa b8; have b4 := yaa b9; have b0 := yaa d0; have b1 := yaa d1; have b2 := yaa d2; have b3 := yaa d3; have HB := yaa Q_HB; have b5 := yaa (d4 (hon 2 (by kernel_rfl))); have f0 := yaa (d7 (hon 3 (by kernel_rfl))); have d6 := yaa (d5 (hon 7 (by kernel_rfl))); have f8 := yaa (d8 (hon 8 (by kernel_rfl))); have e4 := yaa (d9 (hon 13 (by kernel_rfl))); obtain ⟨G1, G2, N7⟩ := Kd.R_slice e4.out
             (first | subst N7 | (injection N7 with f1_ f2_ f3_; have f4_ := f1_.symm; have f5_ := f3_.symm; clear f1_ f2_ f3_; subst f4_; subst f5_))
             refine goes_ Try.func15 (by kernel_rfl) rfl #[.agg #[.int .i64 j7, .int .i64 j8, .slice i2 g1.length h9], .slice G1 y154.length G2] (by first | rfl | (simp [Region.wanted, yielded, *]; done)) rfl rfl (by first | (simp only [List.map_toArray, List.map_cons, List.map_nil, Act.eval, Array.getD_eq_getD_getElem?, Option.getD_some, e92, e94, e91]; done) | (simp only [List.map_toArray, List.map_cons, List.map_nil, Act.eval, Array.getD_eq_getD_getElem?, Option.getD_some, e92, e94, e91]; rfl)) ?_
             with_reducible refine (laws_eaDo.calls kj64 j7 j8 (fun k_ => some k_ = (.slice i2 g1.length h9 : Value).ownBlock) _ _ g1 _ _ y154 F2 F3 B6 _ ?side1 ?side2 ?side3 U4.out).mono ?_
             (case side1 => exact Kd.Q_V (Kd.Q_tight rfl (yab (yab (yab (yab (yab (yab (yac (yac (yac (a3.out) (yad b5.out) (by decide)) (yad d6.out) (by decide)) (yad e4.out) (by decide)) a9.out (by decide)) a5.out (by decide)) b0.out (by decide)) b1.out (by decide)) b2.out (by decide)) b3.out (by decide))))
             (case side2 => repeat (first | exact (yaw e4.out).2.2 | (with_reducible refine Kd.C_alloc ?_ _) | (with_reducible refine Kd.C_drewN ?_ _) | (with_reducible refine Kd.C_drew ?_)))
             (case side3 => exact (yaw e4.out).2.1)
             rintro e w154 ⟨h2, rfl, ho0, hb⟩; refine ⟨_, rfl, ?_⟩; have n0_ := yaa (yaf (upQ a2.out) hb); have n1_ := yaa (yaf (upQ a3.out) hb); have n2_ := yaa (yaf (upQ a4.out) hb); have n3_ := yaa (yan (upR b5.out) hb); have n4_ := yaa (Kd.V_below (upV f0.out) hb); have n5_ := yaa (yan (upR d6.out) hb); have n6_ := yaa (Kd.V_below (upV f8.out) hb); have n7_ := yaa (yan (upR e4.out) hb)
             have n8_ := yaa (Kd.V_lower (Kd.V_mono (ok' := fun k_ => some k_ ≠ (.slice i1 g0.length h4 : Value).ownBlock ∧ some k_ ≠ (.slice i5 g7.length i3 : Value).ownBlock ∧ some k_ ≠ (g4 : Value).ownBlock ∧ some k_ ≠ (g5 : Value).ownBlock ∧ some k_ ≠ (.slice G1 y154.length G2 : Value).ownBlock ∧ k_ ≠ h3 ∧ k_ ≠ f2 ∧ k_ ≠ e1 ∧ k_ ≠ f7 ∧ k_ ≠ e3 ∧ k_ ≠ e9 ∧ k_ ≠ b6) ho0 (fun k_ hk_ => ⟨Or.elim hk_ (fun hs_ => ((yab (yab (yab (yab (yab (yab (yac (yac (yac (a3.out) (yad b5.out) (by decide)) (yad d6.out) (by decide)) (yad e4.out) (by decide)) a9.out (by decide)) a5.out (by decide)) b0.out (by decide)) b1.out (by decide)) b2.out (by decide)) b3.out (by decide)).1 k_ hs_.symm).1.1.1.1.1.1.1.1.1.1) (fun hn_ => (ybd (Kd.Q_lt (upQ a2.out)) k_ hn_)), Or.elim hk_ (fun hs_ => ((yab (yab (yab (yab (yab (yab (yac (yac (yac (a3.out) (yad b5.out) (by decide)) (yad d6.out) (by decide)) (yad e4.out) (by decide)) a9.out (by decide)) a5.out (by decide)) b0.out (by decide)) b1.out (by decide)) b2.out (by decide)) b3.out (by decide)).1 k_ hs_.symm).1.1.1.1.1.1.1.1.1.2.1) (fun hn_ => (ybd (Kd.Q_lt (upQ a4.out)) k_ hn_)), Or.elim hk_ (fun hs_ => ((yab (yab (yab (yab (yab (yab (yac (yac (yac (a3.out) (yad b5.out) (by decide)) (yad d6.out) (by decide)) (yad e4.out) (by decide)) a9.out (by decide)) a5.out (by decide)) b0.out (by decide)) b1.out (by decide)) b2.out (by decide)) b3.out (by decide)).1 k_ hs_.symm).1.1.1.1.1.1.1.1.2) (fun hn_ => (ybd (Kd.R_lt (upR b5.out)) k_ hn_)), Or.elim hk_ (fun hs_ => ((yab (yab (yab (yab (yab (yab (yac (yac (yac (a3.out) (yad b5.out) (by decide)) (yad d6.out) (by decide)) (yad e4.out) (by decide)) a9.out (by decide)) a5.out (by decide)) b0.out (by decide)) b1.out (by decide)) b2.out (by decide)) b3.out (by decide)).1 k_ hs_.symm).1.1.1.1.1.1.1.2) (fun hn_ => (ybd (Kd.R_lt (upR d6.out)) k_ hn_)), Or.elim hk_ (fun hs_ => ((yab (yab (yab (yab (yab (yab (yac (yac (yac (a3.out) (yad b5.out) (by decide)) (yad d6.out) (by decide)) (yad e4.out) (by decide)) a9.out (by decide)) a5.out (by decide)) b0.out (by decide)) b1.out (by decide)) b2.out (by decide)) b3.out (by decide)).1 k_ hs_.symm).1.1.1.1.1.1.2) (fun hn_ => (ybd (Kd.R_lt (upR e4.out)) k_ hn_)), Or.elim hk_ (fun hs_ => ((yab (yab (yab (yab (yab (yab (yac (yac (yac (a3.out) (yad b5.out) (by decide)) (yad d6.out) (by decide)) (yad e4.out) (by decide)) a9.out (by decide)) a5.out (by decide)) b0.out (by decide)) b1.out (by decide)) b2.out (by decide)) b3.out (by decide)).1 k_ hs_.symm).1.1.1.1.1.2) (fun hn_ => (yap (upB a9.out) k_ hn_)), Or.elim hk_ (fun hs_ => ((yab (yab (yab (yab (yab (yab (yac (yac (yac (a3.out) (yad b5.out) (by decide)) (yad d6.out) (by decide)) (yad e4.out) (by decide)) a9.out (by decide)) a5.out (by decide)) b0.out (by decide)) b1.out (by decide)) b2.out (by decide)) b3.out (by decide)).1 k_ hs_.symm).1.1.1.1.2) (fun hn_ => (yap (upB a5.out) k_ hn_)), Or.elim hk_ (fun hs_ => ((yab (yab (yab (yab (yab (yab (yac (yac (yac (a3.out) (yad b5.out) (by decide)) (yad d6.out) (by decide)) (yad e4.out) (by decide)) a9.out (by decide)) a5.out (by decide)) b0.out (by decide)) b1.out (by decide)) b2.out (by decide)) b3.out (by decide)).1 k_ hs_.symm).1.1.1.1.1.1.1.1.1.2.2) (fun hn_ => (yap (upB b4.out) k_ hn_)), Or.elim hk_ (fun hs_ => ((yab (yab (yab (yab (yab (yab (yac (yac (yac (a3.out) (yad b5.out) (by decide)) (yad d6.out) (by decide)) (yad e4.out) (by decide)) a9.out (by decide)) a5.out (by decide)) b0.out (by decide)) b1.out (by decide)) b2.out (by decide)) b3.out (by decide)).1 k_ hs_.symm).1.1.1.2) (fun hn_ => (yap (upB b0.out) k_ hn_)), Or.elim hk_ (fun hs_ => ((yab (yab (yab (yab (yab (yab (yac (yac (yac (a3.out) (yad b5.out) (by decide)) (yad d6.out) (by decide)) (yad e4.out) (by decide)) a9.out (by decide)) a5.out (by decide)) b0.out (by decide)) b1.out (by decide)) b2.out (by decide)) b3.out (by decide)).1 k_ hs_.symm).1.1.2) (fun hn_ => (yap (upB b1.out) k_ hn_)), Or.elim hk_ (fun hs_ => ((yab (yab (yab (yab (yab (yab (yac (yac (yac (a3.out) (yad b5.out) (by decide)) (yad d6.out) (by decide)) (yad e4.out) (by decide)) a9.out (by decide)) a5.out (by decide)) b0.out (by decide)) b1.out (by decide)) b2.out (by decide)) b3.out (by decide)).1 k_ hs_.symm).1.2) (fun hn_ => (yap (upB b2.out) k_ hn_)), Or.elim hk_ (fun hs_ => ((yab (yab (yab (yab (yab (yab (yac (yac (yac (a3.out) (yad b5.out) (by decide)) (yad d6.out) (by decide)) (yad e4.out) (by decide)) a9.out (by decide)) a5.out (by decide)) b0.out (by decide)) b1.out (by decide)) b2.out (by decide)) b3.out (by decide)).1 k_ hs_.symm).2) (fun hn_ => (yap (upB b3.out) k_ hn_))⟩)) (yax (by repeat (with_reducible first | exact HB.out | refine oneH ?_ | refine yag ?_ (Aside0.out ‹_›)))))
             have n9_ := yaa (yae (upB a9.out) hb); have k1 := yaa (yae (upB a5.out) hb); have k8 := yaa (yae (upB b4.out) hb); have m3 := yaa (yae (upB b0.out) hb); have m7 := yaa (yae (upB b1.out) hb); have m8 := yaa (yae (upB b2.out) hb); have n5 := yaa (yae (upB b3.out) hb)
             have p6 := yaa (yal (by repeat (with_reducible first | exact HB.out | refine oneH ?_ | refine yag ?_ (Aside0.out ‹_›))) hb)
             have p4 := fun (h0_ : b 18 = true) => (show Kd.R k27 27 w154 w.heap.size (fun k_ => k_ ≠ f2 ∧ k_ ≠ e9 ∧ k_ ≠ b6) g9 y162 from by first | exact (yan (by (with_reducible repeat (first | apply yai | apply yaj | apply yak)); exact (e0 h0_)) hb) | exact yao (yan (by (with_reducible repeat (first | apply yai | apply yaj | apply yak)); exact (e0 h0_)) hb) (fun _ h_ => by first | trivial | exact h_ | exact h_.1))
             clear a2; clear a3; clear a4; clear b5; clear f0; clear d6; clear f8; clear e4; clear a9; clear a5; clear b4; clear b0; clear b1; clear b2; clear b3; clear HB; have a2 := n0_; have a3 := n1_; have a4 := n2_; have b5 := n3_; have f0 := n4_; have d6 := n5_; have f8 := n6_; have e4 := n7_; have l5 := n8_; have a9 := n9_; have a5 := k1; have b4 := k8; have b0 := m3; have b1 := m7; have b2 := m8; have b3 := n5; have HB := p6; clear n0_ n1_ n2_ n3_ n4_ n5_ n6_ n7_ n8_ n9_ k1 k8 m3 m7 m8 n5 p6; (try clear hb); (try clear hb2); (try clear hk); (try clear hi); (try clear ho0)
             refine hK.out _ _ ⟨g4, h0, g5, h5, .slice G1 y154.length G2, h2, g9, h6, m3_, m8_, (.agg #[.int .i64 F2, .int .i64 F3, h2]), h8, (by rw [ha.out]; exact yar 14 hb_ rfl rfl rfl), (upQ a2.out), (upQ a3.out), (upQ a4.out), (upB a9.out), (upB a5.out), (upB b4.out), (upB b0.out), (upB b1.out), (upB b2.out), (upB b3.out), (by repeat (with_reducible first | exact HB.out | refine oneH ?_ | refine yag ?_ (Aside0.out ‹_›))), fun _ => (upR b5.out), fun _ => (upV f0.out), fun _ => (upR d6.out), fun _ => (upV f8.out), fun _ => (upR e4.out), fun _ => (by (with_reducible repeat (first | apply Kd.V_alloc | apply Kd.V_drewN | apply Kd.V_drew)); exact Kd.V_mono l5.out (fun _ hk => by grind)), p4, offA_ (hoff 19 (by kernel_rfl)), f4, g2, fun _ => rfl, offA_ (hoff 19 (by kernel_rfl))⟩
            refine yaq ?_ ?_
            ·
             rintro b a w' ⟨g4, h0, g5, h5, g8, h2, g9, h6, m3_, m8_, h7, h8, ha, a6, a7, a8, b7, b8, b9, d0, d1, d2, d3, Q_HB, d4, d7, d5, d8, d9, e2, e0, e7, f4, g2, f3, g3⟩ hb_ hon hoff
             refine ⟨_, rfl, fun K hK => ?_⟩; have e5 : a.tmps[5]? = some (.pointer (some ⟨h3, 0, none⟩)) := (by rw [ha]; exact (putSel_off rfl).trans rfl); have e91 : a.tmps[91]? = some (.bool true) := (by rw [ha]; exact yam (e := (10, 91, .bool true)) 10 rfl rfl (hon 10 (by kernel_rfl)) rfl); replace ha := yaa ha; have a2 := yaa a6; have a3 := yaa a7; have a4 := yaa a8; have a9 := yaa b7; have a5 := yaa b8; have b4 := yaa b9; have b0 := yaa d0; have b1 := yaa d1; have b2 := yaa d2; have b3 := yaa d3; have HB := yaa Q_HB; have b5 := yaa (d4 (hon 2 (by kernel_rfl))); have f0 := yaa (d7 (hon 3 (by kernel_rfl))); have d6 := yaa (d5 (hon 7 (by kernel_rfl))); have f8 := yaa (d8 (hon 8 (by kernel_rfl))); obtain ⟨hc0_, hc1_, hc2_⟩ := cc3_ a9.out
             refine value_ (w1 := w') (v := .agg #[.int .i64 k0, .int .i64 k2, .slice i1 g0.length h4]) (wanted_on rfl rfl rfl (e91.trans (by first | rfl | (simp [*]; done)))) rfl ?_ ?_
             ·
              go_simp
              (try simp only [i64_w])
              try rfl
             refine hK.out _ _ ⟨g4, h0, g5, h5, g8, h2, g9, h6, m3_, m8_, h7, h8, (by rw [ha.out]; exact yar 15 hb_ rfl rfl rfl), a6, a7, a8, b7, b8, b9, d0, d1, d2, d3, Q_HB, d4, d7, d5, d8, d9, e2, e0, offA_ (hoff 19 (by kernel_rfl)), f4, g2, f3, offA_ (hoff 19 (by kernel_rfl))⟩
            refine yaq ?_ ?_
            ·
             rintro b a w' ⟨g4, h0, g5, h5, g8, h2, g9, h6, m3_, m8_, h7, h8, ha, a6, a7, a8, b7, b8, b9, d0, d1, d2, d3, Q_HB, d4, d7, d5, d8, d9, e2, e0, e7, f4, g2, f3, g3⟩ hb_ hon hoff
             refine ⟨_, rfl, fun K hK => ?_⟩; have e13 : a.tmps[13]? = some (.pointer (some ⟨b6, 0, none⟩)) := (by rw [ha]; exact (putSel_off rfl).trans rfl); have e91 : a.tmps[91]? = some (.bool true) := (by rw [ha]; exact yam (e := (10, 91, .bool true)) 10 rfl rfl (hon 10 (by kernel_rfl)) rfl); replace ha := yaa ha; have a2 := yaa a6; have a3 := yaa a7; have a4 := yaa a8; have a9 := yaa b7; have a5 := yaa b8; have b4 := yaa b9; have b0 := yaa d0; have b1 := yaa d1; have b2 := yaa d2; have b3 := yaa d3; have HB := yaa Q_HB; have b5 := yaa (d4 (hon 2 (by kernel_rfl))); have f0 := yaa (d7 (hon 3 (by kernel_rfl))); have d6 := yaa (d5 (hon 7 (by kernel_rfl))); have f8 := yaa (d8 (hon 8 (by kernel_rfl))); obtain ⟨hc0_, hc1_, hc2_, hc3_, hc4_⟩ := cc5_ b3.out
             refine value_ (w1 := w') (v := .agg #[.int .i64 8, .int .i64 f1, .int .i64 f5, .int .i64 f9, .int .i64 0]) (wanted_on rfl rfl rfl (e91.trans (by first | rfl | (simp [*]; done)))) rfl ?_ ?_
             ·
              go_simp
              (try simp only [i64_w])
              try rfl
             refine hK.out _ _ ⟨g4, h0, g5, h5, g8, h2, g9, h6, m3_, m8_, h7, h8, (by rw [ha.out]; exact yar 16 hb_ rfl rfl rfl), a6, a7, a8, b7, b8, b9, d0, d1, d2, d3, Q_HB, d4, d7, d5, d8, d9, e2, offA_ (hoff 18 (by kernel_rfl)), offA_ (hoff 19 (by kernel_rfl)), f4, g2, f3, offA_ (hoff 19 (by kernel_rfl))⟩
            refine yaq ?_ ?_
            ·
             rintro b a w' ⟨g4, h0, g5, h5, g8, h2, g9, h6, m3_, m8_, h7, h8, ha, a6, a7, a8, b7, b8, b9, d0, d1, d2, d3, Q_HB, d4, d7, d5, d8, d9, e2, e0, e7, f4, g2, f3, g3⟩ hb_ hon hoff
             refine ⟨_, rfl, fun K hK => ?_⟩; have e6 : a.tmps[6]? = some (.pointer (some ⟨f2, 0, none⟩)) := (by rw [ha]; exact (putSel_off rfl).trans rfl); have e91 : a.tmps[91]? = some (.bool true) := (by rw [ha]; exact yam (e := (10, 91, .bool true)) 10 rfl rfl (hon 10 (by kernel_rfl)) rfl); replace ha := yaa ha; have a2 := yaa a6; have a3 := yaa a7; have a4 := yaa a8; have a9 := yaa b7; have a5 := yaa b8; have b4 := yaa b9; have b0 := yaa d0; have b1 := yaa d1; have b2 := yaa d2; have b3 := yaa d3; have HB := yaa Q_HB; have b5 := yaa (d4 (hon 2 (by kernel_rfl))); have f0 := yaa (d7 (hon 3 (by kernel_rfl))); have d6 := yaa (d5 (hon 7 (by kernel_rfl))); have f8 := yaa (d8 (hon 8 (by kernel_rfl))); obtain ⟨hc0_, hc1_, hc2_, hc3_, hc4_⟩ := cc5_ a5.out
             refine value_ (w1 := w') (v := .agg #[.int .i64 g6, .int .i64 i6, .int .i64 i7, .int .i64 j3, .int .i64 j4]) (wanted_on rfl rfl rfl (e91.trans (by first | rfl | (simp [*]; done)))) rfl ?_ ?_
             ·
              go_simp
              (try simp only [i64_w])
              try rfl
             refine hK.out _ _ ⟨g4, h0, g5, h5, g8, h2, g9, h6, m3_, m8_, h7, h8, (by rw [ha.out]; exact yar 17 hb_ rfl rfl rfl), a6, a7, a8, b7, b8, b9, d0, d1, d2, d3, Q_HB, d4, d7, d5, d8, d9, e2, offA_ (hoff 18 (by kernel_rfl)), offA_ (hoff 19 (by kernel_rfl)), f4, g2, f3, offA_ (hoff 19 (by kernel_rfl))⟩
            refine yaq ?_ ?_
            ·
             rintro b a w' ⟨g4, h0, g5, h5, g8, h2, g9, h6, m3_, m8_, h7, h8, ha, a6, a7, a8, b7, b8, b9, d0, d1, d2, d3, Q_HB, d4, d7, d5, d8, d9, e2, e0, e7, f4, g2, f3, g3⟩ hb_ hon hoff
             refine ⟨_, rfl, fun K hK => ?_⟩; have e97 : a.tmps[97]? = some (.agg #[.int .i64 8, .int .i64 f1, .int .i64 f5, .int .i64 f9, .int .i64 0]) := (by rw [ha]; exact yam (e := (16, 97, .agg #[.int .i64 8, .int .i64 f1, .int .i64 f5, .int .i64 f9, .int .i64 0])) 16 rfl rfl (hon 16 (by kernel_rfl)) rfl); have e98 : a.tmps[98]? = some (.agg #[.int .i64 g6, .int .i64 i6, .int .i64 i7, .int .i64 j3, .int .i64 j4]) := (by rw [ha]; exact yam (e := (17, 98, .agg #[.int .i64 g6, .int .i64 i6, .int .i64 i7, .int .i64 j3, .int .i64 j4])) 17 rfl rfl (hon 17 (by kernel_rfl)) rfl); have e91 : a.tmps[91]? = some (.bool true) := (by rw [ha]; exact yam (e := (10, 91, .bool true)) 10 rfl rfl (hon 10 (by kernel_rfl)) rfl); replace ha := yaa ha; have a2 := yaa a6; have a3 := yaa a7; have a4 := yaa a8; have a9 := yaa b7; have a5 := yaa b8; have b4 := yaa b9; have b0 := yaa d0; have b1 := yaa d1; have b2 := yaa d2; have b3 := yaa d3; have HB := yaa Q_HB; have b5 := yaa (d4 (hon 2 (by kernel_rfl))); have f0 := yaa (d7 (hon 3 (by kernel_rfl))); have d6 := yaa (d5 (hon 7 (by kernel_rfl))); have f8 := yaa (d8 (hon 8 (by kernel_rfl)))
             refine Kd.R_lit_step k27 _ 27 ?hg (N := 99) ?hd (xs := ([(⟨8, f1, f5, f9, 0⟩ : S27), (⟨g6, i6, i7, j3, j4⟩ : S27)] : List (S27))) (inner := [.int .i64 8, .int .i64 f1, .int .i64 f5, .int .i64 f9, .int .i64 0, .int .i64 g6, .int .i64 i6, .int .i64 i7, .int .i64 j3, .int .i64 j4]) (ok := fun _ => True) (okp := fun _ => True) ?hr ?hp (fun _ hk => hk) trivial (Below.refl _ _) (Nat.le_refl _) (by simp) ?_; (case hd => rfl); (case hg => first | rfl | (simp [Region.wanted, yielded, *]; done)); (case hr => first | (go_simp; done) | (go_simp; rfl)); (case hp => exact (Reps.c5 (show Kd.M k27 _ _ _ (⟨8, f1, f5, f9, 0⟩ : S27) [.int .i64 8, .int .i64 f1, .int .i64 f5, .int .i64 f9, .int .i64 0] from (k27_mkM _ _ _ (⟨8, f1, f5, f9, 0⟩ : S27) )) (Reps.c5 (show Kd.M k27 _ _ _ (⟨g6, i6, i7, j3, j4⟩ : S27) [.int .i64 g6, .int .i64 i6, .int .i64 i7, .int .i64 j3, .int .i64 j4] from (k27_mkM _ _ _ (⟨g6, i6, i7, j3, j4⟩ : S27) )) (Reps.none _ _))))
             intro g9 w151 j5 hb hg_ hnew_; clear hg_ hnew_
             (first | rw [← Ny162.out] at j5 | (simp only [Int.reduceToNat] at j5; rw [← Ny162.out] at j5))
             have n0_ := yaa (yaf (upQ a2.out) hb); have n1_ := yaa (yaf (upQ a3.out) hb); have n2_ := yaa (yaf (upQ a4.out) hb); have n3_ := yaa (ybe (upR b5.out) (yav j5) hb); have n4_ := yaa (Kd.V_elder' (upV f0.out) (yav j5) hb); have n5_ := yaa (ybe (upR d6.out) (yav j5) hb); have n6_ := yaa (Kd.V_elder' (upV f8.out) (yav j5) hb)
             have n7_ := yaa (Kd.R_lower (Kd.R_newB (Kd.R_newB (Kd.R_newB (Kd.R_new' (Kd.R_new' j5 (Kd.R_lt (upR b5.out))) (Kd.R_lt (upR d6.out))) (upB a5.out)) (upB b2.out)) (upB b3.out)) (yax (by repeat (with_reducible first | exact HB.out | refine oneH ?_ | refine yag ?_ (Aside0.out ‹_›)))))
             have n8_ := yaa (yae (upB a9.out) hb); have n9_ := yaa (yae (upB a5.out) hb); have k1 := yaa (yae (upB b4.out) hb); have k8 := yaa (yae (upB b0.out) hb); have m3 := yaa (yae (upB b1.out) hb); have m7 := yaa (yae (upB b2.out) hb); have m8 := yaa (yae (upB b3.out) hb)
             have n5 := yaa (yal (by repeat (with_reducible first | exact HB.out | refine oneH ?_ | refine yag ?_ (Aside0.out ‹_›))) hb)
             have L7 := fun (h0_ : b 13 = true) => (show Kd.R k27 27 w151 w.heap.size (fun k_ => k_ ≠ f2 ∧ k_ ≠ e9 ∧ k_ ≠ b6) g8 y154 from by first | exact (ybe (by (with_reducible repeat (first | apply yai | apply yaj | apply yak)); exact (d9 h0_)) (yav j5) hb) | exact yao (ybe (by (with_reducible repeat (first | apply yai | apply yaj | apply yak)); exact (d9 h0_)) (yav j5) hb) (fun _ h_ => by first | trivial | exact h_ | exact h_.1))
             have L8 := fun (h0_ : b 14 = true) => (show Kd.V k36 36 w151 w.heap.size (fun k_ => some k_ ≠ (.slice i1 g0.length h4 : Value).ownBlock ∧ some k_ ≠ (.slice i5 g7.length i3 : Value).ownBlock ∧ k_ ≠ h3 ∧ k_ ≠ f2 ∧ k_ ≠ e1 ∧ k_ ≠ f7 ∧ k_ ≠ e3 ∧ k_ ≠ e9 ∧ k_ ≠ b6) h2 B6 from by first | exact (Kd.V_elder' (by (with_reducible repeat (first | apply Kd.V_alloc | apply Kd.V_drewN | apply Kd.V_drew)); exact (e2 h0_)) (yav j5) hb) | exact Kd.V_mono (Kd.V_elder' (by (with_reducible repeat (first | apply Kd.V_alloc | apply Kd.V_drewN | apply Kd.V_drew)); exact (e2 h0_)) (yav j5) hb) (fun _ h_ => by first | trivial | exact h_ | exact h_.1))
             clear a2; clear a3; clear a4; clear b5; clear f0; clear d6; clear f8; clear a9; clear a5; clear b4; clear b0; clear b1; clear b2; clear b3; clear HB; have a2 := n0_; have a3 := n1_; have a4 := n2_; have b5 := n3_; have f0 := n4_; have d6 := n5_; have f8 := n6_; have i0 := n7_; have a9 := n8_; have a5 := n9_; have b4 := k1; have b0 := k8; have b1 := m3; have b2 := m7; have b3 := m8; have HB := n5; clear n0_ n1_ n2_ n3_ n4_ n5_ n6_ n7_ n8_ n9_ k1 k8 m3 m7 m8 n5; clear hb j5
             refine hK.out _ _ ⟨g4, h0, g5, h5, g8, h2, g9, h6, m3_, m8_, h7, h8, (by rw [ha.out]; exact yar 18 hb_ rfl rfl rfl), (upQ a2.out), (upQ a3.out), (upQ a4.out), (upB a9.out), (upB a5.out), (upB b4.out), (upB b0.out), (upB b1.out), (upB b2.out), (upB b3.out), (by repeat (with_reducible first | exact HB.out | refine oneH ?_ | refine yag ?_ (Aside0.out ‹_›))), fun _ => (by (with_reducible repeat (first | apply yai | apply yaj | apply yak)); exact yao b5.out (fun _ hk => by grind)), fun _ => (by (with_reducible repeat (first | apply Kd.V_alloc | apply Kd.V_drewN | apply Kd.V_drew)); exact Kd.V_mono f0.out (fun _ hk => by grind)), fun _ => (by (with_reducible repeat (first | apply yai | apply yaj | apply yak)); exact yao d6.out (fun _ hk => by grind)), fun _ => (by (with_reducible repeat (first | apply Kd.V_alloc | apply Kd.V_drewN | apply Kd.V_drew)); exact Kd.V_mono f8.out (fun _ hk => by grind)), L7, L8, fun _ => (by (with_reducible repeat (first | apply yai | apply yaj | apply yak)); exact yao i0.out (fun _ hk => by grind)), offA_ (hoff 19 (by kernel_rfl)), f4, g2, f3, offA_ (hoff 19 (by kernel_rfl))⟩
            refine yaq ?_ ?_
            ·
             rintro b a w' ⟨g4, h0, g5, h5, g8, h2, g9, h6, m3_, m8_, h7, h8, ha, a6, a7, a8, b7, b8, b9, d0, d1, d2, d3, Q_HB, d4, d7, d5, d8, d9, e2, e0, e7, f4, g2, f3, g3⟩ hb_ hon hoff
             refine ⟨_, rfl, fun K hK => ?_⟩; have e96 : a.tmps[96]? = some (.agg #[.int .i64 k0, .int .i64 k2, .slice i1 g0.length h4]) := (by rw [ha]; exact yam (e := (15, 96, .agg #[.int .i64 k0, .int .i64 k2, .slice i1 g0.length h4])) 15 rfl rfl (hon 15 (by kernel_rfl)) rfl); have e99 : a.tmps[99]? = some (g9) := (by rw [ha]; exact yam (e := (18, 99, g9)) 18 rfl rfl (hon 18 (by kernel_rfl)) rfl); have e91 : a.tmps[91]? = some (.bool true) := (by rw [ha]; exact yam (e := (10, 91, .bool true)) 10 rfl rfl (hon 10 (by kernel_rfl)) rfl); replace ha := yaa ha; have a2 := yaa a6; have a3 := yaa a7; have a4 := yaa a8; have a9 := yaa b7; have a5 := yaa b8; have b4 := yaa b9; have b0 := yaa d0; have b1 := yaa d1; have b2 := yaa d2; have b3 := yaa d3; have HB := yaa Q_HB; have b5 := yaa (d4 (hon 2 (by kernel_rfl))); have f0 := yaa (d7 (hon 3 (by kernel_rfl))); have d6 := yaa (d5 (hon 7 (by kernel_rfl))); have f8 := yaa (d8 (hon 8 (by kernel_rfl))); have e4 := yaa (d9 (hon 13 (by kernel_rfl))); have l5 := yaa (e2 (hon 14 (by kernel_rfl))); have i0 := yaa (e0 (hon 18 (by kernel_rfl))); obtain ⟨G3, G4, N8⟩ := Kd.R_slice i0.out
             (first | subst N8 | (injection N8 with f1_ f2_ f3_; have f4_ := f1_.symm; have f5_ := f3_.symm; clear f1_ f2_ f3_; subst f4_; subst f5_))
             refine goes_ Try.func15 (by kernel_rfl) rfl #[.agg #[.int .i64 k0, .int .i64 k2, .slice i1 g0.length h4], .slice G3 y162.length G4] (by first | rfl | (simp [Region.wanted, yielded, *]; done)) rfl rfl (by first | (simp only [List.map_toArray, List.map_cons, List.map_nil, Act.eval, Array.getD_eq_getD_getElem?, Option.getD_some, e96, e99, e91]; done) | (simp only [List.map_toArray, List.map_cons, List.map_nil, Act.eval, Array.getD_eq_getD_getElem?, Option.getD_some, e96, e99, e91]; rfl)) ?_
             with_reducible refine (laws_eaDo.calls kj64 k0 k2 (fun k_ => some k_ = (.slice i1 g0.length h4 : Value).ownBlock) _ _ g0 _ _ y162 F4 F5 F6 _ ?side1 ?side2 ?side3 U5.out).mono ?_
             (case side1 => exact Kd.Q_V (Kd.Q_tight rfl (yab (yab (yab (yab (yab (yab (yac (yac (yac (yac (a2.out) (yad b5.out) (by decide)) (yad d6.out) (by decide)) (yad e4.out) (by decide)) (yad i0.out) (by decide)) a9.out (by decide)) a5.out (by decide)) b0.out (by decide)) b1.out (by decide)) b2.out (by decide)) b3.out (by decide))))
             (case side2 => repeat (first | exact (yaw i0.out).2.2 | (with_reducible refine Kd.C_alloc ?_ _) | (with_reducible refine Kd.C_drewN ?_ _) | (with_reducible refine Kd.C_drew ?_)))
             (case side3 => exact (yaw i0.out).2.1)
             rintro e w158 ⟨h6, rfl, ho0, hb⟩; refine ⟨_, rfl, ?_⟩; have n0_ := yaa (yaf (upQ a2.out) hb); have n1_ := yaa (yaf (upQ a3.out) hb); have n2_ := yaa (yaf (upQ a4.out) hb); have n3_ := yaa (yan (upR b5.out) hb); have n4_ := yaa (Kd.V_below (upV f0.out) hb); have n5_ := yaa (yan (upR d6.out) hb); have n6_ := yaa (Kd.V_below (upV f8.out) hb); have n7_ := yaa (yan (upR e4.out) hb); have n8_ := yaa (Kd.V_below (upV l5.out) hb); have n9_ := yaa (yan (upR i0.out) hb)
             have k1 := yaa (Kd.V_lower (Kd.V_mono (ok' := fun k_ => some k_ ≠ (.slice i2 g1.length h9 : Value).ownBlock ∧ some k_ ≠ (.slice i5 g7.length i3 : Value).ownBlock ∧ some k_ ≠ (g4 : Value).ownBlock ∧ some k_ ≠ (g5 : Value).ownBlock ∧ some k_ ≠ (g8 : Value).ownBlock ∧ some k_ ≠ (.slice G3 y162.length G4 : Value).ownBlock ∧ k_ ≠ h3 ∧ k_ ≠ f2 ∧ k_ ≠ e1 ∧ k_ ≠ f7 ∧ k_ ≠ e3 ∧ k_ ≠ e9 ∧ k_ ≠ b6) ho0 (fun k_ hk_ => ⟨Or.elim hk_ (fun hs_ => ((yab (yab (yab (yab (yab (yab (yac (yac (yac (yac (a2.out) (yad b5.out) (by decide)) (yad d6.out) (by decide)) (yad e4.out) (by decide)) (yad i0.out) (by decide)) a9.out (by decide)) a5.out (by decide)) b0.out (by decide)) b1.out (by decide)) b2.out (by decide)) b3.out (by decide)).1 k_ hs_.symm).1.1.1.1.1.1.1.1.1.1.1) (fun hn_ => (ybd (Kd.Q_lt (upQ a3.out)) k_ hn_)), Or.elim hk_ (fun hs_ => ((yab (yab (yab (yab (yab (yab (yac (yac (yac (yac (a2.out) (yad b5.out) (by decide)) (yad d6.out) (by decide)) (yad e4.out) (by decide)) (yad i0.out) (by decide)) a9.out (by decide)) a5.out (by decide)) b0.out (by decide)) b1.out (by decide)) b2.out (by decide)) b3.out (by decide)).1 k_ hs_.symm).1.1.1.1.1.1.1.1.1.1.2.1) (fun hn_ => (ybd (Kd.Q_lt (upQ a4.out)) k_ hn_)), Or.elim hk_ (fun hs_ => ((yab (yab (yab (yab (yab (yab (yac (yac (yac (yac (a2.out) (yad b5.out) (by decide)) (yad d6.out) (by decide)) (yad e4.out) (by decide)) (yad i0.out) (by decide)) a9.out (by decide)) a5.out (by decide)) b0.out (by decide)) b1.out (by decide)) b2.out (by decide)) b3.out (by decide)).1 k_ hs_.symm).1.1.1.1.1.1.1.1.1.2) (fun hn_ => (ybd (Kd.R_lt (upR b5.out)) k_ hn_)), Or.elim hk_ (fun hs_ => ((yab (yab (yab (yab (yab (yab (yac (yac (yac (yac (a2.out) (yad b5.out) (by decide)) (yad d6.out) (by decide)) (yad e4.out) (by decide)) (yad i0.out) (by decide)) a9.out (by decide)) a5.out (by decide)) b0.out (by decide)) b1.out (by decide)) b2.out (by decide)) b3.out (by decide)).1 k_ hs_.symm).1.1.1.1.1.1.1.1.2) (fun hn_ => (ybd (Kd.R_lt (upR d6.out)) k_ hn_)), Or.elim hk_ (fun hs_ => ((yab (yab (yab (yab (yab (yab (yac (yac (yac (yac (a2.out) (yad b5.out) (by decide)) (yad d6.out) (by decide)) (yad e4.out) (by decide)) (yad i0.out) (by decide)) a9.out (by decide)) a5.out (by decide)) b0.out (by decide)) b1.out (by decide)) b2.out (by decide)) b3.out (by decide)).1 k_ hs_.symm).1.1.1.1.1.1.1.2) (fun hn_ => (ybd (Kd.R_lt (upR e4.out)) k_ hn_)), Or.elim hk_ (fun hs_ => ((yab (yab (yab (yab (yab (yab (yac (yac (yac (yac (a2.out) (yad b5.out) (by decide)) (yad d6.out) (by decide)) (yad e4.out) (by decide)) (yad i0.out) (by decide)) a9.out (by decide)) a5.out (by decide)) b0.out (by decide)) b1.out (by decide)) b2.out (by decide)) b3.out (by decide)).1 k_ hs_.symm).1.1.1.1.1.1.2) (fun hn_ => (ybd (Kd.R_lt (upR i0.out)) k_ hn_)), Or.elim hk_ (fun hs_ => ((yab (yab (yab (yab (yab (yab (yac (yac (yac (yac (a2.out) (yad b5.out) (by decide)) (yad d6.out) (by decide)) (yad e4.out) (by decide)) (yad i0.out) (by decide)) a9.out (by decide)) a5.out (by decide)) b0.out (by decide)) b1.out (by decide)) b2.out (by decide)) b3.out (by decide)).1 k_ hs_.symm).1.1.1.1.1.2) (fun hn_ => (yap (upB a9.out) k_ hn_)), Or.elim hk_ (fun hs_ => ((yab (yab (yab (yab (yab (yab (yac (yac (yac (yac (a2.out) (yad b5.out) (by decide)) (yad d6.out) (by decide)) (yad e4.out) (by decide)) (yad i0.out) (by decide)) a9.out (by decide)) a5.out (by decide)) b0.out (by decide)) b1.out (by decide)) b2.out (by decide)) b3.out (by decide)).1 k_ hs_.symm).1.1.1.1.2) (fun hn_ => (yap (upB a5.out) k_ hn_)), Or.elim hk_ (fun hs_ => ((yab (yab (yab (yab (yab (yab (yac (yac (yac (yac (a2.out) (yad b5.out) (by decide)) (yad d6.out) (by decide)) (yad e4.out) (by decide)) (yad i0.out) (by decide)) a9.out (by decide)) a5.out (by decide)) b0.out (by decide)) b1.out (by decide)) b2.out (by decide)) b3.out (by decide)).1 k_ hs_.symm).1.1.1.1.1.1.1.1.1.1.2.2) (fun hn_ => (yap (upB b4.out) k_ hn_)), Or.elim hk_ (fun hs_ => ((yab (yab (yab (yab (yab (yab (yac (yac (yac (yac (a2.out) (yad b5.out) (by decide)) (yad d6.out) (by decide)) (yad e4.out) (by decide)) (yad i0.out) (by decide)) a9.out (by decide)) a5.out (by decide)) b0.out (by decide)) b1.out (by decide)) b2.out (by decide)) b3.out (by decide)).1 k_ hs_.symm).1.1.1.2) (fun hn_ => (yap (upB b0.out) k_ hn_)), Or.elim hk_ (fun hs_ => ((yab (yab (yab (yab (yab (yab (yac (yac (yac (yac (a2.out) (yad b5.out) (by decide)) (yad d6.out) (by decide)) (yad e4.out) (by decide)) (yad i0.out) (by decide)) a9.out (by decide)) a5.out (by decide)) b0.out (by decide)) b1.out (by decide)) b2.out (by decide)) b3.out (by decide)).1 k_ hs_.symm).1.1.2) (fun hn_ => (yap (upB b1.out) k_ hn_)), Or.elim hk_ (fun hs_ => ((yab (yab (yab (yab (yab (yab (yac (yac (yac (yac (a2.out) (yad b5.out) (by decide)) (yad d6.out) (by decide)) (yad e4.out) (by decide)) (yad i0.out) (by decide)) a9.out (by decide)) a5.out (by decide)) b0.out (by decide)) b1.out (by decide)) b2.out (by decide)) b3.out (by decide)).1 k_ hs_.symm).1.2) (fun hn_ => (yap (upB b2.out) k_ hn_)), Or.elim hk_ (fun hs_ => ((yab (yab (yab (yab (yab (yab (yac (yac (yac (yac (a2.out) (yad b5.out) (by decide)) (yad d6.out) (by decide)) (yad e4.out) (by decide)) (yad i0.out) (by decide)) a9.out (by decide)) a5.out (by decide)) b0.out (by decide)) b1.out (by decide)) b2.out (by decide)) b3.out (by decide)).1 k_ hs_.symm).2) (fun hn_ => (yap (upB b3.out) k_ hn_))⟩)) (yax (by repeat (with_reducible first | exact HB.out | refine oneH ?_ | refine yag ?_ (Aside0.out ‹_›)))))
             have k8 := yaa (yae (upB a9.out) hb); have m3 := yaa (yae (upB a5.out) hb); have m7 := yaa (yae (upB b4.out) hb); have m8 := yaa (yae (upB b0.out) hb); have n5 := yaa (yae (upB b1.out) hb); have p6 := yaa (yae (upB b2.out) hb); have G5 := yaa (yae (upB b3.out) hb)
             have G6 := yaa (yal (by repeat (with_reducible first | exact HB.out | refine oneH ?_ | refine yag ?_ (Aside0.out ‹_›))) hb)
             clear a2; clear a3; clear a4; clear b5; clear f0; clear d6; clear f8; clear e4; clear l5; clear i0; clear a9; clear a5; clear b4; clear b0; clear b1; clear b2; clear b3; clear HB; have a2 := n0_; have a3 := n1_; have a4 := n2_; have b5 := n3_; have f0 := n4_; have d6 := n5_; have f8 := n6_; have e4 := n7_; have l5 := n8_; have i0 := n9_; have m9 := k1; have a9 := k8; have a5 := m3; have b4 := m7; have b0 := m8; have b1 := n5; have b2 := p6; have b3 := G5; have HB := G6; clear n0_ n1_ n2_ n3_ n4_ n5_ n6_ n7_ n8_ n9_ k1 k8 m3 m7 m8 n5 p6 G5 G6; (try clear hb); (try clear hb2); (try clear hk); (try clear hi); (try clear ho0)
             refine hK.out _ _ ⟨g4, h0, g5, h5, g8, h2, .slice G3 y162.length G4, h6, m3_, m8_, h7, (.agg #[.int .i64 F4, .int .i64 F5, h6]), (by rw [ha.out]; exact yar 19 hb_ rfl rfl rfl), (upQ a2.out), (upQ a3.out), (upQ a4.out), (upB a9.out), (upB a5.out), (upB b4.out), (upB b0.out), (upB b1.out), (upB b2.out), (upB b3.out), (by repeat (with_reducible first | exact HB.out | refine oneH ?_ | refine yag ?_ (Aside0.out ‹_›))), fun _ => (upR b5.out), fun _ => (upV f0.out), fun _ => (upR d6.out), fun _ => (upV f8.out), fun _ => (upR e4.out), fun _ => (upV l5.out), fun _ => (upR i0.out), fun _ => (by (with_reducible repeat (first | apply Kd.V_alloc | apply Kd.V_drewN | apply Kd.V_drew)); exact Kd.V_mono m9.out (fun _ hk => by grind)), f4, g2, f3, fun _ => rfl⟩
            refine yaq ?_ ?_
            ·
             rintro b a w' ⟨g4, h0, g5, h5, g8, h2, g9, h6, m3_, m8_, h7, h8, ha, a6, a7, a8, b7, b8, b9, d0, d1, d2, d3, Q_HB, d4, d7, d5, d8, d9, e2, e0, e7, f4, g2, f3, g3⟩ hb_ hon hoff
             refine ⟨_, rfl, fun K hK => ?_⟩; have e95 : a.tmps[95]? = some (h7) := (by rw [ha]; exact yam (e := (14, 95, h7)) 14 rfl rfl (hon 14 (by kernel_rfl)) rfl)
             rw [f3 (hon 14 (by kernel_rfl))] at e95
             have O5 : a.tmps[100]? = some (h8) := (by rw [ha]; exact yam (e := (19, 100, h8)) 19 rfl rfl (hon 19 (by kernel_rfl)) rfl)
             rw [g3 (hon 19 (by kernel_rfl))] at O5
             have e91 : a.tmps[91]? = some (.bool true) := (by rw [ha]; exact yam (e := (10, 91, .bool true)) 10 rfl rfl (hon 10 (by kernel_rfl)) rfl); replace ha := yaa ha; have a2 := yaa a6; have a3 := yaa a7; have a4 := yaa a8; have a9 := yaa b7; have a5 := yaa b8; have b4 := yaa b9; have b0 := yaa d0; have b1 := yaa d1; have b2 := yaa d2; have b3 := yaa d3; have HB := yaa Q_HB; have b5 := yaa (d4 (hon 2 (by kernel_rfl))); have f0 := yaa (d7 (hon 3 (by kernel_rfl))); have d6 := yaa (d5 (hon 7 (by kernel_rfl))); have f8 := yaa (d8 (hon 8 (by kernel_rfl))); have e4 := yaa (d9 (hon 13 (by kernel_rfl))); have l5 := yaa (e2 (hon 14 (by kernel_rfl))); have i0 := yaa (e0 (hon 18 (by kernel_rfl))); have m9 := yaa (e7 (hon 19 (by kernel_rfl))); obtain ⟨N9, O0, O1⟩ := Kd.V_slice l5.out
             (first | subst O1 | (injection O1 with f1_ f2_ f3_; have f4_ := f1_.symm; have f5_ := f3_.symm; clear f1_ f2_ f3_; subst f4_; subst f5_))
             obtain ⟨O2, O3, O4⟩ := Kd.V_slice m9.out
             (first | subst O4 | (injection O4 with f1_ f2_ f3_; have f4_ := f1_.symm; have f5_ := f3_.symm; clear f1_ f2_ f3_; subst f4_; subst f5_))
             refine goes_ Try.func13 (by kernel_rfl) rfl #[.agg #[.int .i64 F2, .int .i64 F3, .slice N9 B6.length O0], .agg #[.int .i64 F4, .int .i64 F5, .slice O2 F6.length O3]] (by first | rfl | (simp [Region.wanted, yielded, *]; done)) rfl rfl (by first | (simp only [List.map_toArray, List.map_cons, List.map_nil, Act.eval, Array.getD_eq_getD_getElem?, Option.getD_some, e95, O5, e91]; done) | (simp only [List.map_toArray, List.map_cons, List.map_nil, Act.eval, Array.getD_eq_getD_getElem?, Option.getD_some, e95, O5, e91]; rfl)) ?_
             with_reducible refine (laws_eaRas.calls kj64 F2 F3 _ _ B6 F4 F5 _ _ F6 o8 _ ?side1 ?side2 ?side3 ?side4 U6.out).mono ?_
             (case side1 => repeat (first | exact (Kd.V_reads' l5.out).2.2 | (with_reducible refine Kd.C_alloc ?_ _) | (with_reducible refine Kd.C_drewN ?_ _) | (with_reducible refine Kd.C_drew ?_)))
             (case side2 => exact (Kd.V_reads' l5.out).2.1)
             (case side3 => repeat (first | exact (Kd.V_reads' m9.out).2.2 | (with_reducible refine Kd.C_alloc ?_ _) | (with_reducible refine Kd.C_drewN ?_ _) | (with_reducible refine Kd.C_drew ?_)))
             (case side4 => exact (Kd.V_reads' m9.out).2.1)
             rintro e w161 ⟨rfl, hb⟩; refine ⟨_, rfl, ?_⟩; have n0_ := yaa (yaf (upQ a2.out) hb); have n1_ := yaa (yaf (upQ a3.out) hb); have n2_ := yaa (yaf (upQ a4.out) hb); have n3_ := yaa (yan (upR b5.out) hb); have n4_ := yaa (Kd.V_below (upV f0.out) hb); have n5_ := yaa (yan (upR d6.out) hb); have n6_ := yaa (Kd.V_below (upV f8.out) hb); have n7_ := yaa (yan (upR e4.out) hb); have n8_ := yaa (Kd.V_below (upV l5.out) hb); have n9_ := yaa (yan (upR i0.out) hb); have k1 := yaa (Kd.V_below (upV m9.out) hb); have k8 := yaa (yae (upB a9.out) hb); have m3 := yaa (yae (upB a5.out) hb); have m7 := yaa (yae (upB b4.out) hb); have m8 := yaa (yae (upB b0.out) hb); have n5 := yaa (yae (upB b1.out) hb); have p6 := yaa (yae (upB b2.out) hb); have G5 := yaa (yae (upB b3.out) hb)
             have G6 := yaa (yal (by repeat (with_reducible first | exact HB.out | refine oneH ?_ | refine yag ?_ (Aside0.out ‹_›))) hb)
             clear a2; clear a3; clear a4; clear b5; clear f0; clear d6; clear f8; clear e4; clear l5; clear i0; clear m9; clear a9; clear a5; clear b4; clear b0; clear b1; clear b2; clear b3; clear HB; have a2 := n0_; have a3 := n1_; have a4 := n2_; have b5 := n3_; have f0 := n4_; have d6 := n5_; have f8 := n6_; have e4 := n7_; have l5 := n8_; have i0 := n9_; have m9 := k1; have a9 := k8; have a5 := m3; have b4 := m7; have b0 := m8; have b1 := n5; have b2 := p6; have b3 := G5; have HB := G6; clear n0_ n1_ n2_ n3_ n4_ n5_ n6_ n7_ n8_ n9_ k1 k8 m3 m7 m8 n5 p6 G5 G6; (try clear hb); (try clear hb2); (try clear hk); (try clear hi)
             refine hK.out _ _ ⟨g4, h0, g5, h5, g8, .slice N9 B6.length O0, g9, .slice O2 F6.length O3, m3_, m8_, h7, h8, (by rw [ha.out]; exact yar 20 hb_ rfl rfl rfl), (upQ a2.out), (upQ a3.out), (upQ a4.out), (upB a9.out), (upB a5.out), (upB b4.out), (upB b0.out), (upB b1.out), (upB b2.out), (upB b3.out), (by repeat (with_reducible first | exact HB.out | refine oneH ?_ | refine yag ?_ (Aside0.out ‹_›))), fun _ => (upR b5.out), fun _ => (upV f0.out), fun _ => (upR d6.out), fun _ => (upV f8.out), fun _ => (upR e4.out), fun _ => (upV l5.out), fun _ => (upR i0.out), fun _ => (upV m9.out), f4, g2, f3, g3⟩
            refine yaq ?_ ?_
            ·
             rintro b a w' ⟨g4, h0, g5, h5, g8, h2, g9, h6, m3_, m8_, h7, h8, ha, a6, a7, a8, b7, b8, b9, d0, d1, d2, d3, Q_HB, d4, d7, d5, d8, d9, e2, e0, e7, f4, g2, f3, g3⟩ hb_ hon hoff
             refine ⟨_, rfl, fun K hK => ?_⟩; have e91 : a.tmps[91]? = some (.bool true) := (by rw [ha]; exact yam (e := (10, 91, .bool true)) 10 rfl rfl (hon 10 (by kernel_rfl)) rfl); have dE : a.tmps[101]? = some (.bool o8) := (by rw [ha]; exact yam (e := (20, 101, .bool o8)) 20 rfl rfl (hon 20 (by kernel_rfl)) rfl); replace ha := yaa ha; have a2 := yaa a6; have a3 := yaa a7; have a4 := yaa a8; have a9 := yaa b7; have a5 := yaa b8; have b4 := yaa b9; have b0 := yaa d0; have b1 := yaa d1; have b2 := yaa d2; have b3 := yaa d3; have HB := yaa Q_HB; have b5 := yaa (d4 (hon 2 (by kernel_rfl))); have f0 := yaa (d7 (hon 3 (by kernel_rfl))); have d6 := yaa (d5 (hon 7 (by kernel_rfl))); have f8 := yaa (d8 (hon 8 (by kernel_rfl))); have e4 := yaa (d9 (hon 13 (by kernel_rfl))); have l5 := yaa (e2 (hon 14 (by kernel_rfl))); have i0 := yaa (e0 (hon 18 (by kernel_rfl))); have m9 := yaa (e7 (hon 19 (by kernel_rfl)))
             refine value_ (w1 := w') (v := .bool o8) (by rfl) rfl ?_ ?_
             ·
              go_simp
              (try simp only [i64_w])
              try rfl
             refine hK.out _ _ ⟨g4, h0, g5, h5, g8, h2, g9, h6, m3_, m8_, h7, h8, (by rw [ha.out]; exact yar 21 hb_ rfl rfl rfl), a6, a7, a8, b7, b8, b9, d0, d1, d2, d3, Q_HB, d4, d7, d5, d8, d9, e2, e0, e7, f4, g2, f3, g3⟩
            refine yaq ?_ ?_
            ·
             rintro b a w' ⟨g4, h0, g5, h5, g8, h2, g9, h6, m3_, m8_, h7, h8, ha, a6, a7, a8, b7, b8, b9, d0, d1, d2, d3, Q_HB, d4, d7, d5, d8, d9, e2, e0, e7, f4, g2, f3, g3⟩ hb_ hon hoff
             refine ⟨_, rfl, fun K hK => ?_⟩; have dF : a.tmps[102]? = some (.bool o8) := (by rw [ha]; exact yam (e := (21, 102, .bool o8)) 21 rfl rfl (hon 21 (by kernel_rfl)) rfl); replace ha := yaa ha; have a2 := yaa a6; have a3 := yaa a7; have a4 := yaa a8; have a9 := yaa b7; have a5 := yaa b8; have b4 := yaa b9; have b0 := yaa d0; have b1 := yaa d1; have b2 := yaa d2; have b3 := yaa d3; have HB := yaa Q_HB; have b5 := yaa (d4 (hon 2 (by kernel_rfl))); have f0 := yaa (d7 (hon 3 (by kernel_rfl))); have d6 := yaa (d5 (hon 7 (by kernel_rfl))); have f8 := yaa (d8 (hon 8 (by kernel_rfl))); have e4 := yaa (d9 (hon 13 (by kernel_rfl))); have l5 := yaa (e2 (hon 14 (by kernel_rfl))); have i0 := yaa (e0 (hon 18 (by kernel_rfl))); have m9 := yaa (e7 (hon 19 (by kernel_rfl)))
             refine value_ (w1 := w') (v := .bool o8) (by rfl) rfl ?_ ?_
             ·
              go_simp
              (try simp only [i64_w])
              try rfl
             refine hK.out _ _ ⟨g4, h0, g5, h5, g8, h2, g9, h6, m3_, m8_, h7, h8, (by rw [ha.out]; exact yar 22 hb_ rfl rfl rfl), a6, a7, a8, b7, b8, b9, d0, d1, d2, d3, Q_HB, d4, d7, d5, d8, d9, e2, e0, e7, f4, g2, f3, g3⟩
            exact steps_nil
           rintro b a w161 hall ⟨g4, h0, g5, h5, g8, h2, g9, h6, m3_, m8_, h7, h8, ha, a6, a7, a8, b7, b8, b9, d0, d1, d2, d3, Q_HB, d4, d7, d5, d8, d9, e2, e0, e7, f4, g2, f3, g3⟩; clear a9 a5 b4 b0 b1 b2 b3 HB a2 a3 a4; have hb0_ := hall 0 (by kernel_rfl); have hb1_ := hall 1 (by kernel_rfl); have hb2_ := hall 2 (by kernel_rfl); have hb3_ := hall 3 (by kernel_rfl); have hb4_ := hall 4 (by kernel_rfl); have hb5_ := hall 5 (by kernel_rfl); have hb6_ := hall 6 (by kernel_rfl); have hb7_ := hall 7 (by kernel_rfl); have hb8_ := hall 8 (by kernel_rfl); have hb9_ := hall 9 (by kernel_rfl); have hb10_ := hall 10 (by kernel_rfl); have hb11_ := hall 11 (by kernel_rfl); have hb12_ := hall 12 (by kernel_rfl); have hb13_ := hall 13 (by kernel_rfl); have hb14_ := hall 14 (by kernel_rfl); have hb15_ := hall 15 (by kernel_rfl); have hb16_ := hall 16 (by kernel_rfl); have hb17_ := hall 17 (by kernel_rfl); have hb18_ := hall 18 (by kernel_rfl); have hb19_ := hall 19 (by kernel_rfl); have hb20_ := hall 20 (by kernel_rfl); have hb21_ := hall 21 (by kernel_rfl); have hb22_ := hall 22 (by kernel_rfl); subst ha; obtain rfl := f4 hb3_; obtain rfl := g2 hb8_; obtain rfl := f3 hb14_; obtain rfl := g3 hb19_
           simp only [putSel, hb0_, hb1_, hb2_, hb3_, hb4_, hb5_, hb6_, hb7_, hb8_, hb9_, hb10_, hb11_, hb12_, hb13_, hb14_, hb15_, hb16_, hb17_, hb18_, hb19_, hb20_, hb21_, hb22_, if_true, Act.put, List.setIfInBounds_toArray, List.set_cons_zero, List.set_cons_succ]
           have a2 := yaa a6; clear a6; have a3 := yaa a7; clear a7; have a4 := yaa a8; clear a8; have a9 := yaa b7; clear b7; have a5 := yaa b8; clear b8; have b4 := yaa b9; clear b9; have b0 := yaa d0; clear d0; have b1 := yaa d1; clear d1; have b2 := yaa d2; clear d2; have b3 := yaa d3; clear d3; have HB := yaa Q_HB; clear Q_HB; have b5 := yaa (d4 hb2_); clear d4; have f0 := yaa (d7 hb3_); clear d7; have d6 := yaa (d5 hb7_); clear d5; have f8 := yaa (d8 hb8_); clear d8; have e4 := yaa (d9 hb13_); clear d9; have l5 := yaa (e2 hb14_); clear e2; have i0 := yaa (e0 hb18_); clear e0; have m9 := yaa (e7 hb19_); clear e7; clear hall hb0_ hb1_ hb2_ hb3_ hb4_ hb5_ hb6_ hb7_ hb8_ hb9_ hb10_ hb11_ hb12_ hb13_ hb14_ hb15_ hb16_ hb17_ hb18_ hb19_ hb20_ hb21_ hb22_
           try go_wp2
           go_ret
           exact ⟨by first | rfl | (simp [*, errW_none, errW_some] <;> rfl), by repeat (with_reducible first | exact HB.out | refine oneH ?_ | refine yag ?_ (Aside0.out ‹_›))⟩
          ·
           replace L4 := Bool.eq_false_iff.mpr L4
           subst L4
           rw [if_neg (show ¬ (false = true) by decide)] at H
           rw [hrt] at H
           exact absurd H (by simp)

/-- THE ONE PURE STATEMENT of laws_FnOpEach: yours. -/
def laws_FnOpEach.Pure : Prop := ∀ (l0 : List Int) (l1 : List Int), l0.length ≤ maxLen → l0.length * 1 ≤ 140737488351232 → (∀ x ∈ l0, (Lit.int .u8 x).wf = true) → l1.length ≤ maxLen → l1.length * 1 ≤ 140737488351232 → (∀ x ∈ l1, (Lit.int .u8 x).wf = true) → ∃ k, laws_FnOpEach.f k l0 l1 = some true
theorem laws_FnOpEach.walk (P : laws_FnOpEach.Pure) (a0 : Option Addr) (len0 cap0 : Nat) (z0 : List Int) (a1 : Option Addr) (len1 cap1 : Nat) (z1 : List Int) (w : World) (w0 : (a0 = none ∧ len0 = 0 ∧ cap0 = 0 ∧ z0 = []) ∨ ∃ x, a0 = some x ∧ len0 ≤ cap0 ∧ cap0 ≤ maxLen ∧ z0.length = cap0 ∧ (∀ i, i < z0.length → w.cell? (x.add i) = some (.int .u8 (z0.getD i 0))) ∧ ∀ n ∈ z0, (Lit.int .u8 n).wf = true) (y0 : len0 * 1 ≤ 140737488351232) (w1 : (a1 = none ∧ len1 = 0 ∧ cap1 = 0 ∧ z1 = []) ∨ ∃ x, a1 = some x ∧ len1 ≤ cap1 ∧ cap1 ≤ maxLen ∧ z1.length = cap1 ∧ (∀ i, i < z1.length → w.cell? (x.add i) = some (.int .u8 (z1.getD i 0))) ∧ ∀ n ∈ z1, (Lit.int .u8 n).wf = true) (y1 : len1 * 1 ≤ 140737488351232) :
  Calls Try.prog 6 #[.slice a0 len0 cap0, .slice a1 len1 cap1] w fun e w' => e = .returned (.bool true) ∧ Below w.heap.size w w' := by
 obtain ⟨l0, rfl, hr0, hm0, hw0, hc0⟩ := ReadsInt.ofRowC w0; obtain ⟨l1, rfl, hr1, hm1, hw1, hc1⟩ := ReadsInt.ofRowC w1; obtain ⟨k, h⟩ := P l0 l1 hm0 y0 hw0 hm1 y1 hw1
 refine (laws_FnOpEach.calls k _ _ l0 _ _ l1 true w (Kd.C_of_reads (d := (0 : Int)) (h1 := fun _ => rfl) hr0) hc0 (Kd.C_of_reads (d := (0 : Int)) (h1 := fun _ => rfl) hr1) hc1 h rfl).mono ?_
 rintro e w' ⟨rfl, hd⟩
 exact ⟨rfl, hd⟩

end Go.Proofs.Ytoifpgkfpdeglaa.X

namespace Go.Proofs.Ytoifpgkfpdeglaa.X
open Go.RowKit Go.Proofs.YtoifpgkfpdeglaaW.PrintWords Go.Proofs.Ytoifpgkfpdeglaa.Pl
set_option linter.unusedSimpArgs false
set_option linter.unusedVariables false

theorem mk_succ (w h : Nat) (f : Nat → Nat → Pix) : mk w (h + 1) f = mk w h f ++ (List.range' 0 w).map fun x => f x h := by
  unfold mk
  rw [Nat.mul_add, Nat.mul_one, List.range_add, List.map_append, List.map_map, ← List.range_eq_range']
  congr 1
  apply List.map_congr_left
  intro x hx
  have hx' := List.mem_range.1 hx
  show f ((w * h + x) % w) ((w * h + x) / w) = f x h
  rw [Nat.mul_add_mod, Nat.mod_eq_of_lt hx', Nat.mul_add_div (by omega), Nat.div_eq_of_lt hx', Nat.add_zero]
theorem mk_zero (w : Nat) (f : Nat → Nat → Pix) : mk w 0 f = [] := by unfold mk; simp
theorem ev_rows {β : Type} (w h : Nat) (f : Nat → Nat → Pix) (g0 : Nat → Nat → List Pix → Option β) (g1 : Nat → Nat → Nat → List Pix → Option β) (R : β) (hw : w ≤ 6) (hh : h ≤ 6)
    (hstart : ∀ i s r, i < h → Ev (fun k => g1 k i 0 s) r → Ev (fun k => g0 k i s) r)
    (hin : ∀ i j s r, i < h → j < w → s.length ≤ 10000 → Ev (fun k => g1 k i (j + 1) (s ++ [f j i])) r → Ev (fun k => g1 k i j s) r)
    (hout : ∀ i s r, i < h → Ev (fun k => g0 k (i + 1) s) r → Ev (fun k => g1 k i w s) r)
    (hend : Ev (fun k => g0 k h (mk w h f)) R) : Ev (fun k => g0 k 0 []) R := by
  have inner : ∀ i, i < h → ∀ d j, j + d = w → ∀ (s : List Pix) r, s.length + d ≤ 10000 → Ev (fun k => g1 k i w (s ++ (List.range' j d).map fun x => f x i)) r → Ev (fun k => g1 k i j s) r := by
    intro i hi d
    induction d with
    | zero => intro j hj s r _ h; obtain rfl : j = w := by omega
              simpa using h
    | succ d ih =>
      intro j hj s r hs h
      refine hin i j s r hi (by omega) (by omega) (ih (j + 1) (by omega) _ r (by rw [List.length_append]; simp only [List.length_cons, List.length_nil]; omega) ?_)
      rw [List.range'_succ, List.map_cons] at h
      rw [List.append_assoc, List.singleton_append]
      exact h
  have outer : ∀ d i, i + d = h → Ev (fun k => g0 k i (mk w i f)) R := by
    intro d
    induction d with
    | zero => intro i hi; obtain rfl : i = h := by omega
              exact hend
    | succ d ih =>
      intro i hi
      have hm : w * i ≤ 6 * 6 := Nat.mul_le_mul hw (by omega)
      refine hstart i _ R (by omega) (inner i (by omega) w 0 (by omega) _ R (by rw [mk_length]; omega) (hout i _ R (by omega) ?_))
      rw [← mk_succ]
      exact ih (i + 1) (by omega)
  have := outer h 0 (by omega)
  rwa [mk_zero] at this
theorem ev_line {β : Type} (n : Nat) (F : Nat → Pix) (g : Nat → Nat → List Pix → Option β) (R : β) (hn : n ≤ 10000)
    (hstep : ∀ i s r, i < n → s.length = i → Ev (fun k => g k (i + 1) (s ++ [F i])) r → Ev (fun k => g k i s) r)
    (hend : Ev (fun k => g k n ((List.range n).map F)) R) : Ev (fun k => g k 0 []) R := by
  have outer : ∀ d i, i + d = n → Ev (fun k => g k i ((List.range i).map F)) R := by
    intro d
    induction d with
    | zero => intro i hi; obtain rfl : i = n := by omega
              exact hend
    | succ d ih =>
      intro i hi
      refine hstep i _ R (by omega) (by simp) ?_
      have := ih (i + 1) (by omega)
      rwa [List.range_succ, List.map_append] at this
  exact outer n 0 (by omega)

/-! ### Small numbers -/
theorem wadd {a b : Nat} (h : a + b ≤ 1000000) : wrap64 ((a : Int) + (b : Int)) = ((a + b : Nat) : Int) := by rw [← Int.natCast_add]; exact wrap_id (by omega) (by omega)
theorem wadd1 {a : Nat} (h : a ≤ 999999) : wrap64 ((a : Int) + 1) = ((a + 1 : Nat) : Int) := wadd (a := a) (b := 1) (by omega)
theorem wmul {a b : Nat} (h : a * b ≤ 1000000) : wrap64 ((a : Int) * (b : Int)) = ((a * b : Nat) : Int) := by
  rw [← Int.natCast_mul]; exact wrap_id (Int.le_trans (by decide) (Int.natCast_nonneg _)) (Int.le_trans (Int.ofNat_le.2 h) (by decide))
theorem wmul2 {b : Nat} (h : b ≤ 1000) : wrap64 (2 * (b : Int)) = ((2 * b : Nat) : Int) := wmul (a := 2) (b := b) (by omega)
theorem wsub {a b : Nat} (h : b ≤ a) (ha : a ≤ 1000000) : wrap64 ((a : Int) - (b : Int)) = ((a - b : Nat) : Int) := by rw [← Int.ofNat_sub h]; exact wrap_id (by omega) (by omega)
theorem wsub1 {a : Nat} (h : 1 ≤ a) (ha : a ≤ 1000000) : wrap64 ((a : Int) - 1) = ((a - 1 : Nat) : Int) := wsub (b := 1) h ha
theorem wdiv {a b : Nat} (ha : a ≤ 1000000) : wrap64 (Int.tdiv (a : Int) (b : Int)) = ((a / b : Nat) : Int) := by
  rw [show Int.tdiv (a : Int) (b : Int) = ((a / b : Nat) : Int) from rfl]
  have := Nat.div_le_self a b
  exact wrap_id (Int.le_trans (by decide) (Int.natCast_nonneg _)) (Int.le_trans (Int.ofNat_le.2 (Nat.le_trans this ha)) (by decide))
theorem place_le {x y wd hg : Nat} (hw : wd ≤ 6) (hh : hg ≤ 6) (hy : y < hg) (hx : x < wd) : y * wd ≤ 36 ∧ y * wd + x ≤ 100 := by
  have : y * wd ≤ 6 * 6 := Nat.mul_le_mul (by omega) hw
  omega
theorem at_place {l : List Pix} {wd hg x y : Nat} (hl : l.length = wd * hg) (hx : x < wd) (hy : y < hg) : (0 : Int) ≤ ((y * wd + x : Nat) : Int) ∧ ((y * wd + x : Nat) : Int) < (l.length : Int) := by
  have := place_lt hx hy hl
  omega
theorem rd_pix (l : List Pix) (wd x y : Nat) : (⟨(rd_T36 l ((y * wd + x : Nat) : Int)).f0, (rd_T36 l ((y * wd + x : Nat) : Int)).f1, (rd_T36 l ((y * wd + x : Nat) : Int)).f2, (rd_T36 l ((y * wd + x : Nat) : Int)).f3⟩ : Pix) = pix l wd x y := rfl

theorem spec_l6Crop_ev {wd hg : Nat} {l : List Pix} (hv : Valid wd hg l) (o : Op) (h0 : o.f0 = 1) (ho : OkO o) (hm : hasM o wd hg = true) :
    Ev (fun k => spec_l6Crop.f k wd hg l o.f0 o.f1 o.f2 o.f3 o.f4) ((wideM o wd hg : Int), (highM o wd hg : Int), picM o wd hg l) := by
  obtain ⟨hw, hh, hl, -⟩ := hv
  have hbd : (0 ≤ o.f1 ∧ o.f1 ≤ 5) ∧ (0 ≤ o.f2 ∧ o.f2 ≤ 5) ∧ (1 ≤ o.f3 ∧ o.f3 ≤ 6) ∧ (1 ≤ o.f4 ∧ o.f4 ≤ 6) := by
    rcases ho with ⟨_, h⟩ | ⟨h, _⟩ | ⟨h, _⟩ | ⟨h, _⟩
    · exact h
    · omega
    · omega
    · omega
  have hc := hasM_crop hm h0
  obtain ⟨a0, a1, a2, a3, a4⟩ := o
  dsimp only at h0 hbd hc ⊢
  obtain ⟨A, rfl⟩ : ∃ n : Nat, a1 = n := ⟨a1.toNat, by omega⟩
  obtain ⟨B, rfl⟩ : ∃ n : Nat, a2 = n := ⟨a2.toNat, by omega⟩
  obtain ⟨C, rfl⟩ : ∃ n : Nat, a3 = n := ⟨a3.toNat, by omega⟩
  obtain ⟨D, rfl⟩ : ∃ n : Nat, a4 = n := ⟨a4.toNat, by omega⟩
  subst h0
  have e : picM ⟨1, A, B, C, D⟩ wd hg l = mk C D fun x y => pix l wd (A + x) (B + y) := rfl
  rw [e]
  refine ev_rows C D (fun x y => pix l wd (A + x) (B + y)) (fun k i s => spec_l6Crop.l0 k i wd hg l 1 A B C D C D s) (fun k i j s => spec_l6Crop.l1 k i j wd hg l 1 A B C D C D s) _ (by omega) (by omega) ?_ ?_ ?_ ?_
  · intro i s r hi h
    refine Ev.step (fun k => ?_) h
    simp only [spec_l6Crop.l0]
    rw [if_pos (by omega)]
    rfl
  · intro i j s r hi hj hs h
    refine Ev.step (fun k => ?_) h
    have hp := place_le hw.2 hh.2 (show B + i < hg by omega) (show A + j < wd by omega)
    have ha := at_place hl (show A + j < wd by omega) (show B + i < hg by omega)
    simp only [spec_l6Crop.l1]
    rw [if_pos (by omega), wadd (a := B) (b := i) (by omega), wmul (by omega), wadd (b := A) (by omega), wadd (b := j) (by omega), Nat.add_assoc, if_pos ha.1, if_pos ha.2, if_pos (by omega), wadd1 (by omega), rd_pix]
  · intro i s r hi h
    refine Ev.step (fun k => ?_) h
    simp only [spec_l6Crop.l1]
    rw [if_neg (by omega), wadd1 (by omega)]
  · refine ev_succ ⟨0, fun k _ => ?_⟩
    simp only [spec_l6Crop.l0]
    rw [if_neg (by omega)]
    rfl
theorem spec_l6FlipX_ev {wd hg : Nat} {l : List Pix} (hv : Valid wd hg l) : Ev (fun k => spec_l6FlipX.f k wd hg l) ((wd : Int), (hg : Int), picM ⟨2, 0, 0, 0, 0⟩ wd hg l) := by
  obtain ⟨hw, hh, hl, -⟩ := hv
  rw [picM_flipX]
  refine ev_rows wd hg (fun x y => pix l wd (wd - 1 - x) y) (fun k i s => spec_l6FlipX.l0 k i wd hg l wd hg s) (fun k i j s => spec_l6FlipX.l1 k i ((wd : Int) - 1 - j) wd hg l wd hg s) _ (by omega) (by omega) ?_ ?_ ?_ ?_
  · intro i s r hi h
    refine Ev.step (fun k => ?_) h
    simp only [spec_l6FlipX.l0]
    rw [if_pos (by omega), wsub1 (by omega) (by omega)]
    congr 1
    omega
  · intro i j s r hi hj hs h
    refine Ev.step (fun k => ?_) h
    have hp := place_le hw.2 hh.2 hi (show wd - 1 - j < wd by omega)
    have ha := at_place hl (show wd - 1 - j < wd by omega) hi
    have e1 : (wd : Int) - 1 - (j : Int) = ((wd - 1 - j : Nat) : Int) := by omega
    have e2 : wrap64 (((wd - 1 - j : Nat) : Int) - 1) = (wd : Int) - 1 - ((j + 1 : Nat) : Int) := by rw [wrap_id (by omega) (by omega)]; omega
    simp only [spec_l6FlipX.l1]
    rw [if_pos (by omega), e1, wmul (by omega), wadd (by omega), if_pos ha.1, if_pos ha.2, if_pos (by omega), e2, rd_pix]
  · intro i s r hi h
    refine Ev.step (fun k => ?_) h
    simp only [spec_l6FlipX.l1]
    rw [if_neg (by omega), wadd1 (by omega)]
  · refine ev_succ ⟨0, fun k _ => ?_⟩
    simp only [spec_l6FlipX.l0]
    rw [if_neg (by omega)]
theorem spec_l6Turn_ev {wd hg : Nat} {l : List Pix} (hv : Valid wd hg l) : Ev (fun k => spec_l6Turn.f k wd hg l) ((hg : Int), (wd : Int), picM ⟨4, 0, 0, 0, 0⟩ wd hg l) := by
  obtain ⟨hw, hh, hl, -⟩ := hv
  rw [picM_turn]
  refine ev_rows hg wd (fun x y => pix l wd y (hg - 1 - x)) (fun k i s => spec_l6Turn.l0 k i wd hg l hg wd s) (fun k i j s => spec_l6Turn.l1 k i j wd hg l hg wd s) _ (by omega) (by omega) ?_ ?_ ?_ ?_
  · intro i s r hi h
    refine Ev.step (fun k => ?_) h
    simp only [spec_l6Turn.l0]
    rw [if_pos (by omega)]
    rfl
  · intro i j s r hi hj hs h
    refine Ev.step (fun k => ?_) h
    have hp := place_le hw.2 hh.2 (show hg - 1 - j < hg by omega) hi
    have ha := at_place hl hi (show hg - 1 - j < hg by omega)
    simp only [spec_l6Turn.l1]
    rw [if_pos (by omega), wsub1 (by omega) (by omega), wsub (by omega) (by omega), wmul (by omega), wadd (by omega), if_pos ha.1, if_pos ha.2, if_pos (by omega), wadd1 (by omega), rd_pix]
  · intro i s r hi h
    refine Ev.step (fun k => ?_) h
    simp only [spec_l6Turn.l1]
    rw [if_neg (by omega), wadd1 (by omega)]
  · refine ev_succ ⟨0, fun k _ => ?_⟩
    simp only [spec_l6Turn.l0]
    rw [if_neg (by omega)]
theorem spec_l6Size_ev {wd hg : Nat} {l : List Pix} (hv : Valid wd hg l) {a b : Nat} (ha : 1 ≤ a ∧ a ≤ 6) (hb : 1 ≤ b ∧ b ≤ 6) : Ev (fun k => spec_l6Size.f k wd hg l 7 a b 0 0) ((a : Int), (b : Int), picM ⟨7, a, b, 0, 0⟩ wd hg l) := by
  obtain ⟨hw, hh, hl, -⟩ := hv
  have e : picM ⟨7, a, b, 0, 0⟩ wd hg l = mk a b fun x y => pix l wd ((2 * x + 1) * wd / (2 * a)) ((2 * y + 1) * hg / (2 * b)) := rfl
  rw [e]
  refine ev_rows a b (fun x y => pix l wd ((2 * x + 1) * wd / (2 * a)) ((2 * y + 1) * hg / (2 * b))) (fun k i s => spec_l6Size.l0 k i wd hg l 7 a b 0 0 a b s) (fun k i j s => spec_l6Size.l1 k i j wd hg l 7 a b 0 0 a b s) _ (by omega) (by omega) ?_ ?_ ?_ ?_
  · intro i s r hi h
    refine Ev.step (fun k => ?_) h
    simp only [spec_l6Size.l0]
    rw [if_pos (by omega)]
    rfl
  · intro i j s r hi hj hs h
    refine Ev.step (fun k => ?_) h
    have hx := scale_lt (n := a) hj (show 0 < wd by omega)
    have hy := scale_lt (n := b) hi (show 0 < hg by omega)
    have hp := place_le hw.2 hh.2 hy hx
    have hat := at_place hl hx hy
    have q1 : (2 * i + 1) * hg ≤ 13 * 6 := Nat.mul_le_mul (by omega) hh.2
    have q2 : (2 * j + 1) * wd ≤ 13 * 6 := Nat.mul_le_mul (by omega) hw.2
    simp only [spec_l6Size.l1]
    rw [if_pos (by omega), wmul2 (b := b) (by omega), if_neg (by omega), wmul2 (b := a) (by omega), if_neg (by omega), wmul2 (b := i) (by omega), wadd1 (by omega), wmul (by omega), wdiv (by omega), wmul2 (b := j) (by omega), wadd1 (by omega), wmul (a := 2 * j + 1) (b := wd) (by omega), wdiv (by omega), wmul (by omega), wadd (by omega), if_pos hat.1, if_pos hat.2, if_pos (by omega), wadd1 (by omega), rd_pix]
  · intro i s r hi h
    refine Ev.step (fun k => ?_) h
    simp only [spec_l6Size.l1]
    rw [if_neg (by omega), wadd1 (by omega)]
  · refine ev_succ ⟨0, fun k _ => ?_⟩
    simp only [spec_l6Size.l0]
    rw [if_neg (by omega)]
end Go.Proofs.Ytoifpgkfpdeglaa.X

namespace Go.Proofs.Ytoifpgkfpdeglaa.X
open Go.RowKit Go.Proofs.YtoifpgkfpdeglaaW.PrintWords Go.Proofs.Ytoifpgkfpdeglaa.Pl
set_option linter.unusedSimpArgs false
set_option linter.unusedVariables false

theorem ev_blocks {β : Type} (w h : Nat) (f : Nat → Nat → Pix) (g : Nat → Nat → List Pix → Option β) (R : β) (hw : w ≤ 6) (hh : h ≤ 6)
    (hstep : ∀ i s r, i < h → s.length ≤ 10000 → Ev (fun k => g k (i + 1) (s ++ (List.range' 0 w).map fun x => f x i)) r → Ev (fun k => g k i s) r)
    (hend : Ev (fun k => g k h (mk w h f)) R) : Ev (fun k => g k 0 []) R := by
  have outer : ∀ d i, i + d = h → Ev (fun k => g k i (mk w i f)) R := by
    intro d
    induction d with
    | zero => intro i hi; obtain rfl : i = h := by omega
              exact hend
    | succ d ih =>
      intro i hi
      have hm : w * i ≤ 6 * 6 := Nat.mul_le_mul hw (by omega)
      refine hstep i _ R (by omega) (by rw [mk_length]; omega) ?_
      rw [← mk_succ]
      exact ih (i + 1) (by omega)
  have := outer h 0 (by omega)
  rwa [mk_zero] at this
theorem row_eq {wd hg y : Nat} {l : List Pix} (hl : l.length = wd * hg) (hy : y < hg) : (l.take ((y + 1) * wd)).drop (y * wd) = (List.range' 0 wd).map fun x => pix l wd x y := by
  have h1 : (y + 1) * wd ≤ hg * wd := Nat.mul_le_mul_right _ (by omega)
  have h2 : (y + 1) * wd = y * wd + wd := by rw [Nat.add_mul, Nat.one_mul]
  have h3 : hg * wd = l.length := by rw [hl, Nat.mul_comm]
  rw [← List.range_eq_range']
  apply List.ext_getElem?
  intro i
  rw [List.getElem?_drop, List.getElem?_take, List.getElem?_map]
  by_cases hi : i < wd
  · rw [if_pos (by omega), List.getElem?_range hi, List.getElem?_eq_getElem (by omega)]
    unfold pix
    rw [Option.map_some, List.getD_eq_getElem?_getD, List.getElem?_eq_getElem (by omega)]
    rfl
  · rw [if_neg (by omega), List.getElem?_eq_none (by simp; omega)]
    rfl
theorem spec_l5Flip_ev {wd hg : Nat} {l : List Pix} (hv : Valid wd hg l) : Ev (fun k => spec_l5Flip.f k wd hg l) ((wd : Int), (hg : Int), picM ⟨3, 0, 0, 0, 0⟩ wd hg l) := by
  obtain ⟨hw, hh, hl, -⟩ := hv
  rw [picM_flipY]
  have := ev_blocks wd hg (fun x y => pix l wd x (hg - 1 - y)) (fun k i s => spec_l5Flip.l0 k ((hg : Int) - 1 - i) wd hg l wd hg s) ((wd : Int), (hg : Int), mk wd hg fun x y => pix l wd x (hg - 1 - y)) (by omega) (by omega) ?_ ?_
  · refine Ev.congr (fun k => ?_) this
    show spec_l5Flip.f k wd hg l = _
    unfold spec_l5Flip.f
    rw [wrap_id (x := (hg : Int) - 1) (by omega) (by omega)]
    congr 1
    omega
  · intro i s r hi hs h
    refine Ev.step (fun k => ?_) h
    have e1 : (hg : Int) - 1 - (i : Int) = ((hg - 1 - i : Nat) : Int) := by omega
    have e2 : wrap64 (((hg - 1 - i : Nat) : Int) - 1) = (hg : Int) - 1 - ((i + 1 : Nat) : Int) := by rw [wrap_id (by omega) (by omega)]; omega
    have q1 : (hg - 1 - i) * wd ≤ 6 * 6 := Nat.mul_le_mul (by omega) hw.2
    have q2 : (hg - 1 - i + 1) * wd ≤ 7 * 6 := Nat.mul_le_mul (by omega) hw.2
    have h1 : (hg - 1 - i + 1) * wd ≤ hg * wd := Nat.mul_le_mul_right _ (by omega)
    have h2 : (hg - 1 - i + 1) * wd = (hg - 1 - i) * wd + wd := by rw [Nat.add_mul, Nat.one_mul]
    have h3 : hg * wd = l.length := by rw [hl, Nat.mul_comm]
    have hr := row_eq (y := hg - 1 - i) hl (by omega)
    have hlen : ((l.take ((hg - 1 - i + 1) * wd)).drop ((hg - 1 - i) * wd)).length ≤ 100 := by rw [hr]; simp; omega
    simp only [spec_l5Flip.l0]
    rw [if_pos (by omega), e1, wmul (by omega), wadd1 (by omega), wmul (by omega), if_pos (by omega), if_pos (by omega), if_pos (by omega), Option.bind_some, Int.toNat_natCast, Int.toNat_natCast, if_pos (by omega), e2, hr]
  · refine ev_succ ⟨0, fun k _ => ?_⟩
    simp only [spec_l5Flip.l0]
    rw [if_neg (by omega)]

/-! ### Colour by colour -/
theorem mnmx (a b : Int) : mn a b = (if b < a then b else a) ∧ mx a b = (if a < b then b else a) := ⟨rfl, rfl⟩
theorem mean_inner (l : List Pix) {wd hg x y Y : Nat} (hl : l.length = wd * hg) (hw : wd ≤ 6) (hh : hg ≤ 6) (hx : x < wd) (hY : Y < hg) (r : Int × Int × Int × Int) : ∀ d X C (s : Pix), X + d = nearLo x + nearMany x wd → C + d ≤ 1000 →
    Ev (fun k => spec_l6Mean.l0 k x y ((C + d : Nat) : Int) ((Y + 1 : Nat) : Int) wd hg l (rowSum l wd Y X d s).f0 (rowSum l wd Y X d s).f1 (rowSum l wd Y X d s).f2 (rowSum l wd Y X d s).f3) r →
    Ev (fun k => spec_l6Mean.l1 k x y C Y X wd hg l s.f0 s.f1 s.f2 s.f3) r := by
  have hn := nearMany_pos hx
  have hmin : mn (wrap64 ((wd : Int) - 1)) (wrap64 ((x : Int) + 1)) = ((nearLo x + nearMany x wd : Nat) : Int) - 1 := by
    rw [wrap_id (x := (wd : Int) - 1) (by omega) (by omega), wrap_id (x := (x : Int) + 1) (by omega) (by omega), (mnmx _ _).1, hn.2.1]
    split <;> omega
  intro d
  induction d with
  | zero =>
    intro X C s hX hC h
    refine Ev.step (fun k => ?_) h
    simp only [spec_l6Mean.l1]
    rw [hmin, if_neg (by omega), wadd1 (by omega)]
    rfl
  | succ d ih =>
    intro X C s hX hC h
    have hXw : X < wd := near_lt hx (by omega)
    have hp := place_le hw hh hY hXw
    have ha := at_place hl hXw hY
    have := ih (X + 1) (C + 1) (addP s (pix l wd X Y)) (by omega) (by omega) (by rw [show C + 1 + d = C + (d + 1) by omega]; exact h)
    refine Ev.step (fun k => ?_) this
    simp only [spec_l6Mean.l1]
    rw [hmin, if_pos (by omega), wmul (by omega), wadd (by omega), if_pos ha.1, if_pos ha.2, wadd1 (by omega), wadd1 (by omega)]
    rfl
theorem mean_outer (l : List Pix) {wd hg x y : Nat} (hl : l.length = wd * hg) (hw : wd ≤ 6) (hh : hg ≤ 6) (hx : x < wd) (hy : y < hg) : ∀ d Y C (s : Pix), Y + d = nearLo y + nearMany y hg → C + d * nearMany x wd = nearMany y hg * nearMany x wd →
    Ev (fun k => spec_l6Mean.l0 k x y C Y wd hg l s.f0 s.f1 s.f2 s.f3) ((meanP (boxSum l wd (nearLo x) (nearMany x wd) Y d s) (nearMany y hg * nearMany x wd)).f0, (meanP (boxSum l wd (nearLo x) (nearMany x wd) Y d s) (nearMany y hg * nearMany x wd)).f1, (meanP (boxSum l wd (nearLo x) (nearMany x wd) Y d s) (nearMany y hg * nearMany x wd)).f2, (meanP (boxSum l wd (nearLo x) (nearMany x wd) Y d s) (nearMany y hg * nearMany x wd)).f3) := by
  have hn := nearMany_pos hy
  have hnx := nearMany_pos hx
  have hmb := many_bd hx hy
  have hmin : mn (wrap64 ((hg : Int) - 1)) (wrap64 ((y : Int) + 1)) = ((nearLo y + nearMany y hg : Nat) : Int) - 1 := by
    rw [wrap_id (x := (hg : Int) - 1) (by omega) (by omega), wrap_id (x := (y : Int) + 1) (by omega) (by omega), (mnmx _ _).1, hn.2.1]
    split <;> omega
  have hmax : mx 0 (wrap64 ((x : Int) - 1)) = ((nearLo x : Nat) : Int) := by
    rw [wrap_id (x := (x : Int) - 1) (by omega) (by omega), (mnmx _ _).2]
    unfold nearLo
    split <;> omega
  intro d
  induction d with
  | zero =>
    intro Y C s hY hC
    rw [Nat.zero_mul, Nat.add_zero] at hC
    refine ev_succ ⟨0, fun k _ => ?_⟩
    simp only [spec_l6Mean.l0]
    rw [hmin, if_neg (by omega), if_neg (by omega), hC]
    rfl
  | succ d ih =>
    intro Y C s hY hC
    have hC' : C + nearMany x wd + d * nearMany x wd = nearMany y hg * nearMany x wd := by rw [Nat.add_mul, Nat.one_mul] at hC; omega
    have := mean_inner l hl hw hh hx (show Y < hg from near_lt hy (by omega)) _ (nearMany x wd) (nearLo x) C s rfl (by omega) (ih (Y + 1) (C + nearMany x wd) (rowSum l wd Y (nearLo x) (nearMany x wd) s) (by omega) hC')
    refine Ev.step (fun k => ?_) this
    simp only [spec_l6Mean.l0]
    rw [hmin, hmax, if_pos (by omega)]
theorem spec_l6Mean_ev (l : List Pix) {wd hg x y : Nat} (hl : l.length = wd * hg) (hw : wd ≤ 6) (hh : hg ≤ 6) (hx : x < wd) (hy : y < hg) :
    Ev (fun k => spec_l6Mean.f k wd hg l x y) ((blurP l wd hg x y).f0, (blurP l wd hg x y).f1, (blurP l wd hg x y).f2, (blurP l wd hg x y).f3) := by
  have h := mean_outer l hl hw hh hx hy (nearMany y hg) (nearLo y) 0 z36 rfl (by omega)
  have hmax : mx 0 (wrap64 ((y : Int) - 1)) = ((nearLo y : Nat) : Int) := by
    rw [wrap_id (x := (y : Int) - 1) (by omega) (by omega), (mnmx _ _).2]
    unfold nearLo
    split <;> omega
  refine Ev.congr (fun k => ?_) h
  show spec_l6Mean.f k wd hg l x y = _
  unfold spec_l6Mean.f
  rw [hmax]
  rfl
theorem each_ev {wd hg : Nat} {l : List Pix} (hv : Valid wd hg l) (o0 o1 o2 o3 o4 : Int) (F : Nat → Nat → Pix)
    (hstep : ∀ i (s : List Pix) r, i < l.length → s.length = i → Ev (fun k => spec_l6Each.l0 k ((i + 1 : Nat) : Int) wd hg l o0 o1 o2 o3 o4 wd hg (s ++ [F (i % wd) (i / wd)])) r → Ev (fun k => spec_l6Each.l0 k (i : Int) wd hg l o0 o1 o2 o3 o4 wd hg s) r) :
    Ev (fun k => spec_l6Each.f k wd hg l o0 o1 o2 o3 o4) ((wd : Int), (hg : Int), mk wd hg F) := by
  obtain ⟨hw, hh, hl, -⟩ := hv
  have hle : wd * hg ≤ 6 * 6 := Nat.mul_le_mul hw.2 hh.2
  have := ev_line l.length (fun i => F (i % wd) (i / wd)) (fun k i s => spec_l6Each.l0 k i wd hg l o0 o1 o2 o3 o4 wd hg s) ((wd : Int), (hg : Int), mk wd hg F) (by omega) hstep ?_
  · exact this
  · refine ev_succ ⟨0, fun k _ => ?_⟩
    simp only [spec_l6Each.l0]
    rw [if_neg (by omega), hl]
    rfl
theorem rd_at {l : List Pix} {wd i : Nat} : rd_T36 l (i : Int) = pix l wd (i % wd) (i / wd) := by
  unfold pix
  rw [show i / wd * wd + i % wd = i by rw [Nat.mul_comm]; exact Nat.div_add_mod i wd]
  rfl
theorem spec_gray_ev {wd hg : Nat} {l : List Pix} (hv : Valid wd hg l) (a b c d : Int) : Ev (fun k => spec_l6Each.f k wd hg l 5 a b c d) ((wd : Int), (hg : Int), eachM grayP wd hg l) := by
  refine each_ev hv 5 a b c d (fun x y => grayP (pix l wd x y)) ?_
  have hle : wd * hg ≤ 6 * 6 := Nat.mul_le_mul hv.1.2 hv.2.1.2
  have hl := hv.2.2.1
  intro i s r hi hs h
  refine Ev.step (fun k => ?_) h
  rw [spec_l6Each.l0, if_pos (by omega), if_pos rfl, if_pos (by omega), rd_at (wd := wd)]
  show (if s.length < 4398046511104 then _ else none) = _
  rw [if_pos (by omega), wadd1 (by omega)]
  rfl
theorem spec_flat_ev {wd hg : Nat} {l : List Pix} (hv : Valid wd hg l) (a b c d : Int) : Ev (fun k => spec_l6Each.f k wd hg l 8 a b c d) ((wd : Int), (hg : Int), eachM (flatP a b c) wd hg l) := by
  refine each_ev hv 8 a b c d (fun x y => flatP a b c (pix l wd x y)) ?_
  have hle : wd * hg ≤ 6 * 6 := Nat.mul_le_mul hv.1.2 hv.2.1.2
  have hl := hv.2.2.1
  intro i s r hi hs h
  refine Ev.step (fun k => ?_) h
  rw [spec_l6Each.l0, if_pos (by omega), if_neg (by decide), if_neg (by decide), if_pos (by omega), rd_at (wd := wd)]
  show (if s.length < 4398046511104 then _ else none) = _
  rw [if_pos (by omega), wadd1 (by omega)]
  rfl
theorem spec_blur_ev {wd hg : Nat} {l : List Pix} (hv : Valid wd hg l) (a b c d : Int) : Ev (fun k => spec_l6Each.f k wd hg l 6 a b c d) ((wd : Int), (hg : Int), mk wd hg (blurP l wd hg)) := by
  refine each_ev hv 6 a b c d (blurP l wd hg) ?_
  have hle : wd * hg ≤ 6 * 6 := Nat.mul_le_mul hv.1.2 hv.2.1.2
  have hl := hv.2.2.1
  intro i s r hi hs h
  have hmd := mod_div_lt (show i < wd * hg by omega)
  obtain ⟨K1, h1⟩ := spec_l6Mean_ev l hl hv.1.2 hv.2.1.2 hmd.1 hmd.2
  obtain ⟨K2, h2⟩ := h
  refine ⟨K1 + K2 + 1, fun n hn => ?_⟩
  obtain ⟨m, rfl⟩ : ∃ m, n = m + 1 := ⟨n - 1, by omega⟩
  have e1 := h1 m (by omega)
  have e2 := h2 m (by omega)
  dsimp only at e1 e2 ⊢
  have t1 : Int.tmod (i : Int) (wd : Int) = ((i % wd : Nat) : Int) := rfl
  rw [spec_l6Each.l0, if_pos (by omega), if_neg (by decide), if_pos rfl, if_neg (by have := hv.1.1; omega), t1, wdiv (by omega), e1]
  show (if s.length < 4398046511104 then _ else none) = _
  rw [if_pos (by omega), wadd1 (by omega)]
  exact e2
theorem spec_l6Do_ev {wd hg : Nat} {l : List Pix} (hv : Valid wd hg l) {o : Op} (ho : OkO o) :
    Ev (fun k => spec_l6Do.f k wd hg l o.f0 o.f1 o.f2 o.f3 o.f4) (if hasM o wd hg then ((wideM o wd hg : Int), (highM o wd hg : Int), picM o wd hg l, true) else (0, 0, [], false)) := by
  have hw := hv.1
  have hh := hv.2.1
  have hok := ho
  rcases ho with ⟨h0, b1, b2, b3, b4⟩ | ⟨h0, z1, z2, z3, z4⟩ | ⟨h0, b1, b2, z3, z4⟩ | ⟨h0, b1, b2, b3, z4⟩
  · have e1 : wrap64 (o.f1 + o.f3) = o.f1 + o.f3 := wrap_id (by omega) (by omega)
    have e2 : wrap64 (o.f2 + o.f4) = o.f2 + o.f4 := wrap_id (by omega) (by omega)
    by_cases hm : hasM o wd hg = true
    · have hc := hasM_crop hm h0
      obtain ⟨K, h⟩ := spec_l6Crop_ev hv o h0 hok hm
      refine ⟨K + 1, fun n hn => ?_⟩
      obtain ⟨m, rfl⟩ : ∃ m, n = m + 1 := ⟨n - 1, by omega⟩
      have := h m (by omega)
      dsimp only at this ⊢
      unfold spec_l6Do.f
      rw [if_pos h0, e1, e2, if_neg (by omega), if_pos hm]
      simp only [spec_l6Do.j0]
      rw [if_neg (by simp; omega), this]
      rfl
    · rw [if_neg hm]
      have hm' : ¬ (o.f1 + o.f3 ≤ wd ∧ o.f2 + o.f4 ≤ hg) := by
        intro hc
        apply hm
        unfold hasM
        rw [if_pos h0]
        simp [hc]
      refine ev_succ ⟨0, fun k _ => ?_⟩
      unfold spec_l6Do.f
      dsimp only
      rw [if_pos h0, e1, e2]
      by_cases hx : o.f1 + o.f3 > (wd : Int)
      · rw [if_pos hx]
        simp only [spec_l6Do.j0, if_true]
      · rw [if_neg hx]
        simp only [spec_l6Do.j0]
        rw [if_pos (by simp; omega)]
  · have hm : hasM o wd hg = true := by unfold hasM; rw [if_neg (by omega)]
    obtain ⟨a0, a1, a2, a3, a4⟩ := o
    dsimp only at h0 z1 z2 z3 z4 ⊢
    subst z1 z2 z3 z4
    rw [if_pos hm]
    have : a0 = 2 ∨ a0 = 3 ∨ a0 = 4 ∨ a0 = 5 ∨ a0 = 6 := by omega
    rcases this with rfl | rfl | rfl | rfl | rfl
    · obtain ⟨K, h⟩ := spec_l6FlipX_ev hv
      exact ⟨K, fun n hn => by have := h n hn; dsimp only at this ⊢; unfold spec_l6Do.f; rw [if_neg (by decide), if_pos rfl, this]; rfl⟩
    · obtain ⟨K, h⟩ := spec_l5Flip_ev hv
      exact ⟨K, fun n hn => by have := h n hn; dsimp only at this ⊢; unfold spec_l6Do.f; rw [if_neg (by decide), if_neg (by decide), if_pos rfl, this]; rfl⟩
    · obtain ⟨K, h⟩ := spec_l6Turn_ev hv
      exact ⟨K, fun n hn => by have := h n hn; dsimp only at this ⊢; unfold spec_l6Do.f; rw [if_neg (by decide), if_neg (by decide), if_neg (by decide), if_pos rfl, this]; rfl⟩
    · obtain ⟨K, h⟩ := spec_gray_ev hv 0 0 0 0
      exact ⟨K, fun n hn => by have := h n hn; dsimp only at this ⊢; unfold spec_l6Do.f; rw [if_neg (by decide), if_neg (by decide), if_neg (by decide), if_neg (by decide), if_neg (by decide), this]; rfl⟩
    · obtain ⟨K, h⟩ := spec_blur_ev hv 0 0 0 0
      exact ⟨K, fun n hn => by have := h n hn; dsimp only at this ⊢; unfold spec_l6Do.f; rw [if_neg (by decide), if_neg (by decide), if_neg (by decide), if_neg (by decide), if_neg (by decide), this]; rfl⟩
  · have hm : hasM o wd hg = true := by unfold hasM; rw [if_neg (by omega)]
    obtain ⟨a0, a1, a2, a3, a4⟩ := o
    dsimp only at h0 b1 b2 z3 z4 ⊢
    obtain ⟨A, rfl⟩ : ∃ n : Nat, a1 = n := ⟨a1.toNat, by omega⟩
    obtain ⟨B, rfl⟩ : ∃ n : Nat, a2 = n := ⟨a2.toNat, by omega⟩
    subst h0 z3 z4
    rw [if_pos hm]
    obtain ⟨K, h⟩ := spec_l6Size_ev hv (a := A) (b := B) (by omega) (by omega)
    exact ⟨K, fun n hn => by have := h n hn; dsimp only at this ⊢; unfold spec_l6Do.f; rw [if_neg (by decide), if_neg (by decide), if_neg (by decide), if_neg (by decide), if_pos rfl, this]; rfl⟩
  · have hm : hasM o wd hg = true := by unfold hasM; rw [if_neg (by omega)]
    obtain ⟨a0, a1, a2, a3, a4⟩ := o
    dsimp only at h0 b1 b2 b3 z4 ⊢
    subst h0 z4
    rw [if_pos hm]
    obtain ⟨K, h⟩ := spec_flat_ev hv a1 a2 a3 0
    exact ⟨K, fun n hn => by have := h n hn; dsimp only at this ⊢; unfold spec_l6Do.f; rw [if_neg (by decide), if_neg (by decide), if_neg (by decide), if_neg (by decide), if_neg (by decide), this]; rfl⟩
theorem spec_OpDo_ev (a b : Int) (l : List Pix) (o : Op) : Ev (fun k => spec_OpDo.f k a b l o.f0 o.f1 o.f2 o.f3 o.f4) (doI a b l o) := by
  obtain ⟨K1, h1⟩ := spec_RasOk_ev a b l
  have h2 := spec_OpOk_some o.f0 o.f1 o.f2 o.f3 o.f4
  cases hr : rasOkB a b l with
  | false =>
    refine ⟨K1, fun n hn => ?_⟩
    have := h1 n hn
    dsimp only at this ⊢
    unfold spec_OpDo.f doI
    rw [this, hr]
    rfl
  | true =>
    cases ho : okB o with
    | false =>
      refine ⟨K1, fun n hn => ?_⟩
      have := h1 n hn
      dsimp only at this ⊢
      unfold spec_OpDo.f doI
      rw [this, hr, h2, show opOkB o.f0 o.f1 o.f2 o.f3 o.f4 = false from ho, ho]
      rfl
    | true =>
      obtain ⟨wd, hg, rfl, rfl, hv⟩ := (rasOkB_iff a b l).1 hr
      obtain ⟨K2, h3⟩ := spec_l6Do_ev hv ((okB_iff o).1 ho)
      refine ⟨K1 + K2, fun n hn => ?_⟩
      have e1 := h1 n (by omega)
      have e3 := h3 n (by omega)
      dsimp only at e1 e3 ⊢
      unfold spec_OpDo.f doI
      rw [e1, hr, h2, show opOkB o.f0 o.f1 o.f2 o.f3 o.f4 = true from ho, ho, Int.toNat_natCast, Int.toNat_natCast]
      simp only [Option.bind_some, if_true, e3, Bool.true_and]
theorem doI_len (a b : Int) (l : List Pix) (o : Op) : (doI a b l o).2.2.1.length ≤ 1048576 := by
  unfold doI
  split
  · rename_i h
    simp only [Bool.and_eq_true] at h
    obtain ⟨wd, hg, rfl, rfl, hv⟩ := (rasOkB_iff a b l).1 h.1
    have hd := dims_ok ((okB_iff o).1 h.2.1) hv.1 hv.2.1
    show (picM o _ _ l).length ≤ _
    rw [Int.toNat_natCast, Int.toNat_natCast, picM_length]
    have : wideM o wd hg * highM o wd hg ≤ 6 * 6 := Nat.mul_le_mul hd.1.2 hd.2.2
    omega
  · simp
end Go.Proofs.Ytoifpgkfpdeglaa.X

namespace Go.Proofs.Ytoifpgkfpdeglaa.X
open Go.RowKit Go.Proofs.YtoifpgkfpdeglaaW.PrintWords Go.Proofs.Ytoifpgkfpdeglaa.Pl
set_option linter.unusedSimpArgs false

theorem bits_xor_nonneg (a b : Int) (ha : 0 ≤ a) (ha' : a < 4611686018427387904) (hb : 0 ≤ b) (hb' : b < 4611686018427387904) : 0 ≤ Go.bits .xor .i64 a b ∧ Go.bits .xor .i64 a b < 4611686018427387904 := by
  obtain ⟨m, rfl⟩ := Int.eq_ofNat_of_zero_le ha
  obtain ⟨n, rfl⟩ := Int.eq_ofNat_of_zero_le hb
  have h1 : m < 2 ^ 62 := by omega
  have h2 : n < 2 ^ 62 := by omega
  have hx : m ^^^ n < 2 ^ 62 := Nat.xor_lt_two_pow h1 h2
  have hm : m % 2 ^ 64 = m := Nat.mod_eq_of_lt (by omega)
  have hn : n % 2 ^ 64 = n := Nat.mod_eq_of_lt (by omega)
  have e : Go.bits .xor .i64 (m : Int) (n : Int) = ((m ^^^ n : Nat) : Int) := by
    have hb : (BitVec.ofNat 64 m ^^^ BitVec.ofNat 64 n).toNat = m ^^^ n := by rw [BitVec.toNat_xor, BitVec.toNat_ofNat, BitVec.toNat_ofNat, hm, hn]
    simp only [Go.bits, IntKind.bits, BitVec.ofInt_natCast]
    rw [IntKind.wrap_i64]
    change (((BitVec.ofNat 64 m ^^^ BitVec.ofNat 64 n).toNat : Int) + 9223372036854775808) % 18446744073709551616 - 9223372036854775808 = _
    rw [hb]
    omega
  rw [e]
  omega

/-- The bytes of a code. -/
def Bytes (l : List Int) : Prop := l.length ≤ 2000 ∧ ∀ y ∈ l, 0 ≤ y ∧ y ≤ 255
theorem bytes_rd {l : List Int} (h : Bytes l) (i : Int) : 0 ≤ rd l i ∧ rd l i ≤ 255 := by
  unfold rd
  by_cases hi : i.toNat < l.length
  · exact h.2 _ (getD_mem l 0 i.toNat hi)
  · rw [List.getD_eq_getElem?_getD, List.getElem?_eq_none (by omega)]
    simp

theorem tmod_bd (a n : Int) (ha : 0 ≤ a) (hn : 0 < n) : 0 ≤ Int.tmod a n ∧ Int.tmod a n < n := by
  rw [Int.tmod_eq_emod_of_nonneg ha]
  exact ⟨Int.emod_nonneg _ (by omega), Int.emod_lt_of_pos _ hn⟩

theorem pick_ev (l : List Int) (hl : Bytes l) (p n : Int) (h0 : 0 ≤ p) (h1 : p ≤ 1000000000000) :
    ∃ r, Ev (fun k => spec_l20Rd_pick.f k l p n) (r, p + 1) ∧ 0 ≤ r ∧ (1 ≤ n → r < n) ∧ (n < 1 → r = 0) := by
  have w1 : wrap64 (p + 1) = p + 1 := wrap_id (by omega) (by omega)
  have w2 : wrap64 (p + 1 - 1) = p := by rw [show p + 1 - 1 = p by omega]; exact wrap_id (by omega) (by omega)
  by_cases hn : n < 1
  · refine ⟨0, ev_succ ⟨0, fun k _ => ?_⟩, by omega, fun h => absurd h (by omega), fun _ => rfl⟩
    simp [spec_l20Rd_pick.f, hn, spec_l20Rd_pick.j0, w1]
  have hne : ¬ (n = 0) := by omega
  by_cases hz : l.length = 0
  · refine ⟨0, ev_succ ⟨0, fun k _ => ?_⟩, by omega, fun h => by omega, fun h => absurd h hn⟩
    simp [spec_l20Rd_pick.f, hn, hz, spec_l20Rd_pick.j0, w1]
  have hz' : ¬ ((l.length : Int) = 0) := by omega
  have hzb : ((l.length : Int) == 0) = false := by simpa using hz
  by_cases hlt : p < (l.length : Int)
  · have hb := bytes_rd hl p
    have w3 : wrap64 (rd l p) = rd l p := wrap_id (by omega) (by omega)
    have ht := tmod_bd (rd l p) n hb.1 (by omega)
    refine ⟨Int.tmod (rd l p) n, ev_succ ⟨0, fun k _ => ?_⟩, ht.1, fun _ => ht.2, fun h => absurd h hn⟩
    simp only [spec_l20Rd_pick.f]
    rw [if_neg hn, hzb, w1]
    simp only [spec_l20Rd_pick.j0]
    rw [if_neg (by decide), w2, if_pos hlt, if_pos h0, if_neg hne, w3]
  · have L0 : (0 : Int) < (l.length : Int) := by omega
    have m1 := tmod_bd p (l.length : Int) h0 L0
    have w4 : wrap64 (p * 7) = p * 7 := wrap_id (by omega) (by omega)
    have w5 : wrap64 (p * 7 + 3) = p * 7 + 3 := wrap_id (by omega) (by omega)
    have m2 := tmod_bd (p * 7 + 3) (l.length : Int) (by omega) L0
    obtain ⟨i1, hi1⟩ : ∃ i, i = Int.tmod p (l.length : Int) := ⟨_, rfl⟩
    obtain ⟨i2, hi2⟩ : ∃ i, i = Int.tmod (p * 7 + 3) (l.length : Int) := ⟨_, rfl⟩
    have b1 := bytes_rd hl i1
    have b2 := bytes_rd hl i2
    obtain ⟨v1, hv1⟩ : ∃ v, v = rd l i1 := ⟨_, rfl⟩
    obtain ⟨v2, hv2⟩ : ∃ v, v = rd l i2 := ⟨_, rfl⟩
    have d1 : 0 ≤ Int.tdiv p (l.length : Int) ∧ Int.tdiv p (l.length : Int) ≤ p := by
      rw [Int.tdiv_eq_ediv_of_nonneg h0]
      exact ⟨Int.ediv_nonneg h0 (by omega), Int.ediv_le_self _ h0⟩
    obtain ⟨q, hq⟩ : ∃ q, q = Int.tdiv p (l.length : Int) := ⟨_, rfl⟩
    rw [← hi1] at m1
    rw [← hi2] at m2
    rw [← hv1] at b1
    rw [← hv2] at b2
    rw [← hq] at d1
    have x1 : wrap64 v1 = v1 := wrap_id (by omega) (by omega)
    have x2 : wrap64 v2 = v2 := wrap_id (by omega) (by omega)
    have x3 : wrap64 (v1 * 131) = v1 * 131 := wrap_id (by omega) (by omega)
    have x4 : wrap64 (v2 * 1117) = v2 * 1117 := wrap_id (by omega) (by omega)
    have x5 : wrap64 (v1 * 131 + v2 * 1117) = v1 * 131 + v2 * 1117 := wrap_id (by omega) (by omega)
    have x6 : wrap64 (p * 29) = p * 29 := wrap_id (by omega) (by omega)
    have x7 : wrap64 (v1 * 131 + v2 * 1117 + p * 29) = v1 * 131 + v2 * 1117 + p * 29 := wrap_id (by omega) (by omega)
    have x8 : wrap64 q = q := wrap_id (by omega) (by omega)
    have x9 : wrap64 (q * 53) = q * 53 := wrap_id (by omega) (by omega)
    have x10 : wrap64 (v1 * 131 + v2 * 1117 + p * 29 + q * 53) = v1 * 131 + v2 * 1117 + p * 29 + q * 53 := wrap_id (by omega) (by omega)
    obtain ⟨s, hs⟩ : ∃ s, s = v1 * 131 + v2 * 1117 + p * 29 + q * 53 := ⟨_, rfl⟩
    have hs0 : 0 ≤ s := by omega
    have hs1 : s ≤ 1000000000000000 := by omega
    have x11 : wrap64 (Int.tdiv s 64) = s / 64 := by
      rw [Int.tdiv_eq_ediv_of_nonneg hs0]
      exact wrap_id (by omega) (by omega)
    have hx := bits_xor_nonneg s (s / 64) hs0 (by omega) (by omega) (by omega)
    have ht := tmod_bd (Go.bits .xor .i64 s (s / 64)) n hx.1 (by omega)
    refine ⟨Int.tmod (Go.bits .xor .i64 s (s / 64)) n, ev_succ ⟨0, fun k _ => ?_⟩, ht.1, fun _ => ht.2, fun h => absurd h hn⟩
    simp only [spec_l20Rd_pick.f]
    rw [if_neg hn, hzb, w1]
    simp only [spec_l20Rd_pick.j0]
    rw [if_neg (by decide), w2, if_neg hlt, if_neg hz', w4, w5, ← hi1, ← hi2, if_pos m1.1, if_pos m1.2, if_pos m2.1, if_pos m2.2, if_neg hne, ← hv1, ← hv2, ← hq]
    simp only [x1, x2, x3, x4, x5, x6, x7, x8, x9, x10]
    rw [← hs, x11]

theorem odd_ev (l : List Int) (hl : Bytes l) (p n : Int) (h0 : 0 ≤ p) (h1 : p ≤ 1000000000000) (hn : n ≤ 1000000) :
    ∃ b q, Ev (fun k => spec_l20Rd_odd.f k l p n) (b, q) ∧ p ≤ q ∧ q ≤ p + 1 ∧ (n ≤ 0 → b = false) := by
  by_cases hn0 : n > 0
  · obtain ⟨r, ⟨K, hr⟩, _, _, _⟩ := pick_ev l hl p n h0 h1
    refine ⟨r == wrap64 (n - 1), p + 1, ⟨K, fun k hk => ?_⟩, by omega, by omega, fun h => absurd h (by omega)⟩
    have := hr k hk
    dsimp only at this
    simp [spec_l20Rd_odd.f, hn0, this]
  · refine ⟨false, p, ⟨0, fun k _ => ?_⟩, by omega, by omega, fun _ => rfl⟩
    simp [spec_l20Rd_odd.f, hn0]

theorem pick_tot {l : List Int} (hl : Bytes l) (p n : Int) (h0 : 0 ≤ p) (h1 : p ≤ 1000000000000) :
    Tot (fun k => spec_l20Rd_pick.f k l p n) (fun x => x.2 = p + 1 ∧ 0 ≤ x.1 ∧ (1 ≤ n → x.1 < n) ∧ (n < 1 → x.1 = 0)) := by
  obtain ⟨r, h, a, b, c⟩ := pick_ev l hl p n h0 h1
  exact ⟨_, h, rfl, a, b, c⟩
theorem odd_tot {l : List Int} (hl : Bytes l) (p n : Int) (h0 : 0 ≤ p) (h1 : p ≤ 1000000000000) (hn : n ≤ 1000000) :
    Tot (fun k => spec_l20Rd_odd.f k l p n) (fun x => p ≤ x.2 ∧ x.2 ≤ p + 1 ∧ (n ≤ 0 → x.1 = false)) := by
  obtain ⟨b, q, h, c⟩ := odd_ev l hl p n h0 h1 hn
  exact ⟨_, h, c⟩
theorem open_some (l : List Int) (hu : ∀ y ∈ l, 0 ≤ y ∧ y ≤ 255) : ∃ b, spec_l20Open.f l = some (b, 0) ∧ Bytes b := by
  unfold spec_l20Open.f
  by_cases h : (l.length : Int) > 2000
  · rw [if_pos h, if_pos (by omega)]
    refine ⟨l.take 2000, rfl, ?_, fun y hy => hu y (List.mem_of_mem_take hy)⟩
    rw [List.length_take]
    omega
  · rw [if_neg h]
    exact ⟨l, rfl, by omega, hu⟩
end Go.Proofs.Ytoifpgkfpdeglaa.X

namespace Go.Proofs.Ytoifpgkfpdeglaa.X
open Go.RowKit Go.Proofs.YtoifpgkfpdeglaaW.PrintWords Go.Proofs.Ytoifpgkfpdeglaa.Pl
set_option linter.unusedSimpArgs false
set_option linter.unusedVariables false

theorem l20Op_j0_tot {l : List Int} (hl : Bytes l) (n p o a b c d : Int) (h0 : 0 ≤ p) (h1 : p ≤ 900000000000) (hn : n ≤ 1000) :
    Tot (fun k => spec_l20Op.j0 k n l p o a b c d) (fun x => p ≤ x.2.2.2.2.2 ∧ x.2.2.2.2.2 ≤ p + 3) := by
  refine Tot.succ ?_
  simp only [spec_l20Op.j0]
  refine Tot.bind (odd_tot hl p n h0 (by omega) (by omega)) ?_
  rintro ⟨b1, p1⟩ ⟨e1, e2, -⟩
  dsimp only at e1 e2 ⊢
  refine Tot.ite ?_ ?_ <;> intro hb
  · refine Tot.bind (pick_tot hl p1 4 (by omega) (by omega)) ?_
    rintro ⟨r2, p2⟩ ⟨e3, e4, e5, -⟩
    dsimp only at e3 e4 e5 ⊢
    refine Tot.ite ?_ ?_ <;> intro h
    all_goals try (refine Tot.ite ?_ ?_ <;> intro h')
    all_goals try (refine Tot.ite ?_ ?_ <;> intro h'')
    all_goals
      refine Tot.some_bind ?_
      refine Tot.bind (pick_tot hl p2 2 (by omega) (by omega)) ?_
      rintro ⟨r3, p3⟩ ⟨e6, e7, e8, -⟩
      dsimp only at e6 e7 e8 ⊢
      refine Tot.pos e7 (Tot.pos ?_ (Tot.ret ?_))
      · simp only [List.length_cons, List.length_nil]; omega
      · dsimp only; omega
  · exact Tot.ret (by dsimp only; omega)

theorem l20Op_tot {l : List Int} (hl : Bytes l) (p n : Int) (h0 : 0 ≤ p) (h1 : p ≤ 800000000000) (hn : n ≤ 1000) :
    Tot (fun k => spec_l20Op.f k l p n) (fun x => p ≤ x.2.2.2.2.2 ∧ x.2.2.2.2.2 ≤ p + 8) := by
  simp only [spec_l20Op.f]
  refine Tot.bind (pick_tot hl p 8 h0 (by omega)) ?_
  rintro ⟨r0, p0⟩ ⟨e1, e2, e3, -⟩
  dsimp only at e1 e2 e3 ⊢
  refine Tot.ite ?_ ?_ <;> intro h
  · refine Tot.bind (pick_tot hl p0 3 (by omega) (by omega)) ?_
    rintro ⟨r4, p4⟩ ⟨e4, -, -, -⟩
    dsimp only at e4 ⊢
    refine Tot.bind (pick_tot hl p4 3 (by omega) (by omega)) ?_
    rintro ⟨r5, p5⟩ ⟨e5, -, -, -⟩
    dsimp only at e5 ⊢
    refine Tot.bind (pick_tot hl p5 4 (by omega) (by omega)) ?_
    rintro ⟨r6, p6⟩ ⟨e6, -, -, -⟩
    dsimp only at e6 ⊢
    refine Tot.bind (pick_tot hl p6 4 (by omega) (by omega)) ?_
    rintro ⟨r7, p7⟩ ⟨e7, -, -, -⟩
    dsimp only at e7 ⊢
    exact (l20Op_j0_tot hl n p7 _ _ _ _ _ (by omega) (by omega) hn).mono (fun x hx => by omega)
  refine Tot.ite ?_ ?_ <;> intro h
  · refine Tot.bind (pick_tot hl p0 6 (by omega) (by omega)) ?_
    rintro ⟨r4, p4⟩ ⟨e4, -, -, -⟩
    dsimp only at e4 ⊢
    refine Tot.bind (pick_tot hl p4 6 (by omega) (by omega)) ?_
    rintro ⟨r5, p5⟩ ⟨e5, -, -, -⟩
    dsimp only at e5 ⊢
    exact (l20Op_j0_tot hl n p5 _ _ _ _ _ (by omega) (by omega) hn).mono (fun x hx => by omega)
  refine Tot.ite ?_ ?_ <;> intro h
  · refine Tot.bind (pick_tot hl p0 256 (by omega) (by omega)) ?_
    rintro ⟨r4, p4⟩ ⟨e4, -, -, -⟩
    dsimp only at e4 ⊢
    refine Tot.bind (pick_tot hl p4 256 (by omega) (by omega)) ?_
    rintro ⟨r5, p5⟩ ⟨e5, -, -, -⟩
    dsimp only at e5 ⊢
    refine Tot.bind (pick_tot hl p5 256 (by omega) (by omega)) ?_
    rintro ⟨r6, p6⟩ ⟨e6, -, -, -⟩
    dsimp only at e6 ⊢
    exact (l20Op_j0_tot hl n p6 _ _ _ _ _ (by omega) (by omega) hn).mono (fun x hx => by omega)
  · exact (l20Op_j0_tot hl n p0 _ _ _ _ _ (by omega) (by omega) hn).mono (fun x hx => by omega)

end Go.Proofs.Ytoifpgkfpdeglaa.X

namespace Go.Proofs.Ytoifpgkfpdeglaa.X
open Go.RowKit Go.Proofs.YtoifpgkfpdeglaaW.PrintWords Go.Proofs.Ytoifpgkfpdeglaa.Pl
set_option linter.unusedSimpArgs false
set_option linter.unusedVariables false
theorem l20Pix_tot {l : List Int} (hl : Bytes l) (p : Int) (h0 : 0 ≤ p) (h1 : p ≤ 900000000000) : Tot (fun k => spec_l20Pix.f k l p) (fun x => p ≤ x.2.2.2.2 ∧ x.2.2.2.2 ≤ p + 10) := by
  simp only [spec_l20Pix.f]
  refine Tot.bind (pick_tot hl p 256 h0 (by omega)) ?_
  rintro ⟨r0, p0⟩ ⟨e0, -, -, -⟩
  dsimp only at e0 ⊢
  refine Tot.some_bind ?_
  refine Tot.bind (pick_tot hl p0 3 (by omega) (by omega)) ?_
  rintro ⟨r1, p1⟩ ⟨e1, a1, b1, -⟩
  dsimp only at e1 a1 b1 ⊢
  refine Tot.pos a1 (Tot.pos (by simp only [List.length_cons, List.length_nil]; omega) ?_)
  refine Tot.bind (pick_tot hl p1 256 (by omega) (by omega)) ?_
  rintro ⟨r2, p2⟩ ⟨e2, -, -, -⟩
  dsimp only at e2 ⊢
  refine Tot.some_bind ?_
  refine Tot.bind (pick_tot hl p2 2 (by omega) (by omega)) ?_
  rintro ⟨r3, p3⟩ ⟨e3, a3, b3, -⟩
  dsimp only at e3 a3 b3 ⊢
  refine Tot.pos a3 (Tot.pos (by simp only [List.length_cons, List.length_nil]; omega) ?_)
  refine Tot.bind (pick_tot hl p3 256 (by omega) (by omega)) ?_
  rintro ⟨r4, p4⟩ ⟨e4, -, -, -⟩
  dsimp only at e4 ⊢
  refine Tot.some_bind ?_
  refine Tot.bind (pick_tot hl p4 2 (by omega) (by omega)) ?_
  rintro ⟨r5, p5⟩ ⟨e5, a5, b5, -⟩
  dsimp only at e5 a5 b5 ⊢
  refine Tot.pos a5 (Tot.pos (by simp only [List.length_cons, List.length_nil]; omega) ?_)
  refine Tot.bind (pick_tot hl p5 256 (by omega) (by omega)) ?_
  rintro ⟨r6, p6⟩ ⟨e6, -, -, -⟩
  dsimp only at e6 ⊢
  refine Tot.some_bind ?_
  refine Tot.bind (pick_tot hl p6 4 (by omega) (by omega)) ?_
  rintro ⟨r7, p7⟩ ⟨e7, a7, b7, -⟩
  dsimp only at e7 a7 b7 ⊢
  refine Tot.pos a7 (Tot.pos (by simp only [List.length_cons, List.length_nil]; omega) (Tot.ret ?_))
  dsimp only
  omega
theorem l20Ras_l0_tot {l : List Int} (hl : Bytes l) (n w h : Int) (hw : 1 ≤ w ∧ w ≤ 6) (hh : 1 ≤ h ∧ h ≤ 6) (hn : n ≤ 1000) (P : Int) (hP : P ≤ 700000000000) : ∀ s : Int × Int × List Pix × Pix, (0 ≤ s.1 ∧ s.1 ≤ w * h ∧ s.2.2.1.length = s.1.toNat ∧ 0 ≤ s.2.1 ∧ s.2.1 + 20 * (w * h - s.1) ≤ P) →
    Tot (fun k => spec_l20Ras.l0 k n s.1 l s.2.1 w h s.2.2.1 s.2.2.2.f0 s.2.2.2.f1 s.2.2.2.f2 s.2.2.2.f3) (fun x => x.2.2.1.length ≤ 100 ∧ 0 ≤ x.2.2.2 ∧ x.2.2.2 ≤ P + 20) := by
  have hm1 : w * h ≤ 36 := by
    have : w * h ≤ 6 * 6 := Int.mul_le_mul hw.2 hh.2 (by omega) (by omega)
    omega
  have hm0 : 1 ≤ w * h := by
    have : (1 : Int) * 1 ≤ w * h := Int.mul_le_mul hw.1 hh.1 (by omega) (by omega)
    omega
  have hwr : wrap64 (w * h) = w * h := wrap_id (by omega) (by omega)
  obtain ⟨m, hm⟩ : ∃ m, m = w * h := ⟨_, rfl⟩
  rw [← hm] at hm0 hm1
  refine tot_ind (fun k (s : Int × Int × List Pix × Pix) => spec_l20Ras.l0 k n s.1 l s.2.1 w h s.2.2.1 s.2.2.2.f0 s.2.2.2.f1 s.2.2.2.f2 s.2.2.2.f3) _ (fun s => (m - s.1).toNat) _ ?_
  rintro ⟨i, p, s, z⟩ ⟨i1, i2, i3, i4, i5⟩ ih
  dsimp only at i1 i2 i3 i4 i5 ⊢
  rw [← hm] at i2 i5
  refine Tot.succ ?_
  simp only [spec_l20Ras.l0, hwr]
  rw [← hm]
  refine Tot.ite ?_ ?_ <;> intro hc
  · have hw1 : wrap64 (i + 1) = i + 1 := wrap_id (by omega) (by omega)
    refine Tot.bind (pick_tot hl p 3 (by omega) (by omega)) ?_
    rintro ⟨r0, p0⟩ ⟨e0, -, -, -⟩
    dsimp only at e0 ⊢
    rw [hw1]
    refine Tot.ite ?_ ?_ <;> intro hd
    · refine Tot.bind (l20Pix_tot hl p0 (by omega) (by omega)) ?_
      rintro ⟨c0, c1, c2, c3, p1⟩ ⟨e1, e2⟩
      dsimp only at e1 e2 ⊢
      refine Tot.pos (by omega) ?_
      exact ih (i + 1, p1, s ++ [⟨c0, c1, c2, c3⟩], ⟨c0, c1, c2, c3⟩) (by dsimp only; rw [← hm, List.length_append]; simp only [List.length_cons, List.length_nil]; omega) (by dsimp only; omega)
    · refine Tot.pos (by omega) ?_
      exact ih (i + 1, p0, s ++ [⟨z.f0, z.f1, z.f2, z.f3⟩], z) (by dsimp only; rw [← hm, List.length_append]; simp only [List.length_cons, List.length_nil]; omega) (by dsimp only; omega)
  · have hi : i = m := by omega
    have hlen : (s.length : Int) = m := by omega
    refine Tot.bind (odd_tot hl p n (by omega) (by omega) (by omega)) ?_
    rintro ⟨b1, p1⟩ ⟨e1, e2, -⟩
    dsimp only at e1 e2 ⊢
    refine Tot.ite ?_ ?_ <;> intro hb
    · refine Tot.bind (pick_tot hl p1 4 (by omega) (by omega)) ?_
      rintro ⟨r2, p2⟩ ⟨e3, -, -, -⟩
      dsimp only at e3 ⊢
      refine Tot.ite ?_ ?_ <;> intro hd
      · refine Tot.some_bind ?_
        refine Tot.bind (pick_tot hl p2 4 (by omega) (by omega)) ?_
        rintro ⟨r3, p3⟩ ⟨e4, a4, b4, -⟩
        dsimp only at e4 a4 b4 ⊢
        exact Tot.pos a4 (Tot.pos (by simp only [List.length_cons, List.length_nil]; omega) (Tot.ret ⟨by dsimp only; omega, by dsimp only; omega, by dsimp only; omega⟩))
      refine Tot.ite ?_ ?_ <;> intro hd
      · refine Tot.some_bind ?_
        refine Tot.bind (pick_tot hl p2 2 (by omega) (by omega)) ?_
        rintro ⟨r3, p3⟩ ⟨e4, a4, b4, -⟩
        dsimp only at e4 a4 b4 ⊢
        exact Tot.pos a4 (Tot.pos (by simp only [List.length_cons, List.length_nil]; omega) (Tot.ret ⟨by dsimp only; omega, by dsimp only; omega, by dsimp only; omega⟩))
      refine Tot.ite ?_ ?_ <;> intro hd
      · exact Tot.pos (by omega) (Tot.ret ⟨by dsimp only; rw [List.length_drop]; omega, by dsimp only; omega, by dsimp only; omega⟩)
      · refine Tot.bind (pick_tot hl p2 (s.length : Int) (by omega) (by omega)) ?_
        rintro ⟨r3, p3⟩ ⟨e4, a4, b4, -⟩
        dsimp only at e4 a4 b4 ⊢
        refine Tot.some_bind ?_
        refine Tot.bind (pick_tot hl p3 2 (by omega) (by omega)) ?_
        rintro ⟨r4, p4⟩ ⟨e5, a5, b5, -⟩
        dsimp only at e5 a5 b5 ⊢
        exact Tot.pos a5 (Tot.pos (by simp only [List.length_cons, List.length_nil]; omega) (Tot.pos a4 (Tot.pos (by omega) (Tot.ret ⟨by dsimp only; rw [List.length_set]; omega, by dsimp only; omega, by dsimp only; omega⟩))))
    · exact Tot.ret ⟨by dsimp only; omega, by dsimp only; omega, by dsimp only; omega⟩
theorem l20Ras_tot {l : List Int} (hl : Bytes l) (p n : Int) (h0 : 0 ≤ p) (h1 : p ≤ 600000000000) (hn : n ≤ 1000) : Tot (fun k => spec_l20Ras.f k l p n) (fun x => x.2.2.1.length ≤ 100 ∧ 0 ≤ x.2.2.2 ∧ x.2.2.2 ≤ p + 1000) := by
  simp only [spec_l20Ras.f]
  refine Tot.bind (pick_tot hl p 6 h0 (by omega)) ?_
  rintro ⟨r0, p0⟩ ⟨e0, a0, b0, -⟩
  dsimp only at e0 a0 b0 ⊢
  refine Tot.bind (pick_tot hl p0 6 (by omega) (by omega)) ?_
  rintro ⟨r1, p1⟩ ⟨e1, a1, b1, -⟩
  dsimp only at e1 a1 b1 ⊢
  refine Tot.bind (l20Pix_tot hl p1 (by omega) (by omega)) ?_
  rintro ⟨c0, c1, c2, c3, p2⟩ ⟨e2, e3⟩
  dsimp only at e2 e3 ⊢
  have w0 : wrap64 (1 + r0) = 1 + r0 := wrap_id (by omega) (by omega)
  have w1 : wrap64 (1 + r1) = 1 + r1 := wrap_id (by omega) (by omega)
  have hm : (1 + r0) * (1 + r1) ≤ 6 * 6 := Int.mul_le_mul (by omega) (by omega) (by omega) (by omega)
  have hm0 : (1 : Int) * 1 ≤ (1 + r0) * (1 + r1) := Int.mul_le_mul (by omega) (by omega) (by omega) (by omega)
  rw [w0, w1]
  exact (l20Ras_l0_tot hl n (1 + r0) (1 + r1) (by omega) (by omega) hn (p2 + 720) (by omega) (0, p2, [], ⟨c0, c1, c2, c3⟩) (by dsimp only [List.length_nil]; revert hm hm0; generalize (1 + r0) * (1 + r1) = q; intro hm hm0; omega)).mono (fun x hx => ⟨hx.1, hx.2.1, by omega⟩)
theorem drawOpDo_tot {l : List Int} (hu : ∀ y ∈ l, 0 ≤ y ∧ y ≤ 255) : Tot (fun k => spec_DrawOpDo.f k l) (fun x => x.2.2.1.length ≤ 100) := by
  simp only [spec_DrawOpDo.f]
  obtain ⟨b, e, hb⟩ := open_some l hu
  rw [e]
  refine Tot.some_bind ?_
  refine Tot.bind (l20Ras_tot hb 0 16 (by omega) (by omega) (by omega)) ?_
  rintro ⟨w, h, s, p⟩ ⟨h1, h2, h3⟩
  dsimp only at h1 h2 h3 ⊢
  refine Tot.bind (l20Op_tot hb p 9 (by omega) (by omega) (by omega)) ?_
  rintro ⟨o, a, b, c, d, q⟩ ⟨-, -⟩
  exact Tot.ret h1
end Go.Proofs.Ytoifpgkfpdeglaa.X

namespace Go.Proofs.Ytoifpgkfpdeglaa.X
open Go.RowKit Go.Proofs.YtoifpgkfpdeglaaW.PrintWords Go.Proofs.Ytoifpgkfpdeglaa.Pl
set_option linter.unusedSimpArgs false
set_option linter.unusedVariables false

theorem eaOk_some : laws_eaOk.f = some true := by
  unfold laws_eaOk.f impl_PixOk.f
  simp [partOk_some]
theorem eaRas_same (a b : Int) (l : List Pix) (hl : l.length ≤ 1048576) : Ev (fun k => laws_eaRas.f k a b l a b l) true := by
  have := ev_all l.length (fun k i => laws_eaRas.l0 k i a b l a b l) ?_ ?_
  · refine Ev.step (fun k => ?_) this
    unfold laws_eaRas.f
    rw [if_pos rfl, if_pos rfl, laws_eaRas.j0, if_neg (by simp)]
  · intro i hi h
    refine Ev.step (fun k => ?_) h
    rw [laws_eaRas.l0, if_pos (by omega), if_pos (by omega), if_pos (by omega), if_neg (by simp), wrap_succ (by omega)]
  · intro k
    rw [laws_eaRas.l0, if_neg (by omega)]
/-- All is done in order, whatever can be. -/
def eaI : List Op → Int → Int → List Pix → Int × Int × List Pix
  | [], a, b, l => (a, b, l)
  | o :: os, a, b, l => eaI os (doI a b l o).1 (doI a b l o).2.1 (doI a b l o).2.2.1
theorem drop_op {os : List Op} {i : Nat} (hi : i < os.length) : os.drop i = rd_T27 os (i : Int) :: os.drop (i + 1) := by
  rw [List.drop_eq_getElem_cons hi]
  unfold rd_T27
  rw [List.getD_eq_getElem?_getD, Int.toNat_natCast, List.getElem?_eq_getElem hi]
  rfl
theorem eaDo_ev (os : List Op) (hos : os.length ≤ 1000) (a b : Int) (l : List Pix) : Ev (fun k => laws_eaDo.f k a b l os) (eaI os a b l) := by
  have key : ∀ d i, i + d = os.length → ∀ a b l, Ev (fun k => laws_eaDo.l0 k os (i : Int) a b l) (eaI (os.drop i) a b l) := by
    intro d
    induction d with
    | zero =>
      intro i hi a b l
      refine ev_succ ⟨0, fun k _ => ?_⟩
      rw [List.drop_of_length_le (by omega)]
      show laws_eaDo.l0 (k + 1) os (i : Int) a b l = _
      rw [laws_eaDo.l0, if_neg (by omega)]
      rfl
    | succ d ih =>
      intro i hi a b l
      rw [drop_op (show i < os.length by omega)]
      refine Ev.step (fun k => ?_) (ih (i + 1) (by omega) (doI a b l (rd_T27 os (i : Int))).1 (doI a b l (rd_T27 os (i : Int))).2.1 (doI a b l (rd_T27 os (i : Int))).2.2.1)
      rw [laws_eaDo.l0, if_pos (by omega), if_pos (by omega), wrap_succ (by omega)]
      rfl
  exact key os.length 0 (by omega) a b l
theorem eaI_ok {wd hg : Nat} {l : List Pix} (hv : Valid wd hg l) {o : Op} (ho : OkO o) (hm : hasM o wd hg = true) (os : List Op) : eaI (o :: os) wd hg l = eaI os (wideM o wd hg) (highM o wd hg) (picM o wd hg l) := by
  have e : doI wd hg l o = ((wideM o wd hg : Int), (highM o wd hg : Int), picM o wd hg l, true) := by
    unfold doI
    rw [(rasOkB_iff _ _ _).2 ⟨wd, hg, rfl, rfl, hv⟩, (okB_iff o).2 ho, Int.toNat_natCast, Int.toNat_natCast, hm]
    rfl
  show eaI os (doI wd hg l o).1 (doI wd hg l o).2.1 (doI wd hg l o).2.2.1 = _
  rw [e]
theorem doI_yes {a b : Int} {l : List Pix} {o : Op} (h : (doI a b l o).2.2.2 = true) : ∃ wd hg : Nat, a = wd ∧ b = hg ∧ Valid wd hg l ∧ OkO o ∧ hasM o wd hg = true ∧ doI a b l o = ((wideM o wd hg : Int), (highM o wd hg : Int), picM o wd hg l, true) := by
  unfold doI at h
  split at h
  · rename_i hc
    simp only [Bool.and_eq_true] at hc
    obtain ⟨wd, hg, rfl, rfl, hv⟩ := (rasOkB_iff a b l).1 hc.1
    rw [Int.toNat_natCast, Int.toNat_natCast] at hc
    refine ⟨wd, hg, rfl, rfl, hv, (okB_iff o).1 hc.2.1, hc.2.2, ?_⟩
    unfold doI
    rw [hc.1, hc.2.1, Int.toNat_natCast, Int.toNat_natCast, hc.2.2]
    rfl
  · simp at h
theorem okGray : OkO ⟨5, 0, 0, 0, 0⟩ := Or.inr (Or.inl ⟨by decide, rfl, rfl, rfl, rfl⟩)
theorem okFlat {a b c : Int} (ha : 0 ≤ a ∧ a ≤ 255) (hb : 0 ≤ b ∧ b ≤ 255) (hc : 0 ≤ c ∧ c ≤ 255) : OkO ⟨8, a, b, c, 0⟩ := Or.inr (Or.inr (Or.inr ⟨rfl, ha, hb, hc, rfl⟩))
theorem bytes_wf {l : List Int} (h : ∀ x ∈ l, (Lit.int .u8 x).wf = true) : ∀ y ∈ l, 0 ≤ y ∧ y ≤ 255 := by
  intro y hy
  have := h y hy
  simp [Lit.wf, IntKind.min, IntKind.max, IntKind.signed, IntKind.bits] at this
  omega
end Go.Proofs.Ytoifpgkfpdeglaa.X

namespace Go.Proofs.Ytoifpgkfpdeglaa.Pure
open Go.RowKit Go.Proofs.YtoifpgkfpdeglaaW.PrintWords Go.Proofs.Ytoifpgkfpdeglaa.Pl Go.Proofs.Ytoifpgkfpdeglaa.X
set_option linter.unusedSimpArgs false
set_option linter.unusedVariables false

theorem drawPixOk_tot {l : List Int} (hu : ∀ y ∈ l, 0 ≤ y ∧ y ≤ 255) : Tot (fun k => spec_DrawPixOk.f k l) (fun _ => True) := by
  simp only [spec_DrawPixOk.f]
  obtain ⟨b, e, hb⟩ := open_some l hu
  rw [e]
  refine Tot.some_bind ?_
  refine Tot.bind (l20Pix_tot hb 0 (by omega) (by omega)) ?_
  rintro ⟨c0, c1, c2, c3, p0⟩ ⟨h1, h2⟩
  dsimp only at h1 h2 ⊢
  refine Tot.bind (pick_tot hb p0 6 (by omega) (by omega)) ?_
  rintro ⟨r1, p1⟩ ⟨e1, -, -, -⟩
  dsimp only at e1 ⊢
  refine Tot.ite ?_ ?_ <;> intro h
  · refine Tot.some_bind ?_
    refine Tot.bind (pick_tot hb p1 2 (by omega) (by omega)) ?_
    rintro ⟨r2, p2⟩ ⟨-, a2, b2, -⟩
    dsimp only at a2 b2 ⊢
    exact Tot.pos a2 (Tot.pos (by simp only [List.length_cons, List.length_nil]; omega) (Tot.ret trivial))
  refine Tot.ite ?_ ?_ <;> intro h'
  · refine Tot.some_bind ?_
    refine Tot.bind (pick_tot hb p1 2 (by omega) (by omega)) ?_
    rintro ⟨r2, p2⟩ ⟨-, a2, b2, -⟩
    dsimp only at a2 b2 ⊢
    exact Tot.pos a2 (Tot.pos (by simp only [List.length_cons, List.length_nil]; omega) (Tot.ret trivial))
  · exact Tot.ret trivial

theorem FnOpEach : laws_FnOpEach.Pure := by
  intro l0 l1 _ _ hwf0 _ _ hwf1
  have hu0 := bytes_wf hwf0
  have hu1 := bytes_wf hwf1
  by_cases hlen : (l0.length : Int) > 1048576
  · exact ⟨1, by unfold laws_FnOpEach.f; rw [if_pos hlen, laws_FnOpEach.j0, if_pos rfl]⟩
  by_cases hlen1 : (l1.length : Int) > 1048576
  · exact ⟨1, by unfold laws_FnOpEach.f; rw [if_neg hlen, laws_FnOpEach.j0, if_pos (by simpa using hlen1)]⟩
  obtain ⟨⟨a, b, l, o0, o1, o2, o3, o4⟩, ⟨K0, h0⟩, hl100⟩ := drawOpDo_tot hu0
  obtain ⟨⟨p0, p1, p2, p3⟩, ⟨Kp, hp⟩, -⟩ := drawPixOk_tot hu1
  dsimp only at h0 hl100 hp
  obtain ⟨K1, h1⟩ := spec_OpDo_ev a b l ⟨o0, o1, o2, o3, o4⟩
  obtain ⟨K2, h2⟩ := eaRas_same (doI a b l ⟨o0, o1, o2, o3, o4⟩).1 (doI a b l ⟨o0, o1, o2, o3, o4⟩).2.1 (doI a b l ⟨o0, o1, o2, o3, o4⟩).2.2.1 (doI_len a b l ⟨o0, o1, o2, o3, o4⟩)
  dsimp only at h1 h2
  have hi : impl_OpDo.f a b l o0 o1 o2 o3 o4 = some (doI a b l ⟨o0, o1, o2, o3, o4⟩) := rfl
  suffices hs : Ev (fun k => laws_FnOpEach.j1 k (doI a b l ⟨o0, o1, o2, o3, o4⟩).2.2.2 false a b l o0 o1 o2 o3 o4 p0 p1 p2 p3 (doI a b l ⟨o0, o1, o2, o3, o4⟩).1 (doI a b l ⟨o0, o1, o2, o3, o4⟩).2.1 (doI a b l ⟨o0, o1, o2, o3, o4⟩).2.2.1) true by
    obtain ⟨K3, h3⟩ := hs
    obtain ⟨n, hn⟩ : ∃ n, n = K0 + K1 + K2 + K3 + Kp := ⟨_, rfl⟩
    refine ⟨n + 1, ?_⟩
    have h3' := h3 n (by omega)
    dsimp only at h3'
    unfold laws_FnOpEach.f
    rw [if_neg hlen, laws_FnOpEach.j0, if_neg (by simpa using hlen1), h0 n (by omega)]
    simp only [Option.bind_some]
    rw [hp n (by omega)]
    simp only [Option.bind_some]
    rw [hi]
    simp only [Option.bind_some]
    rw [h1 n (by omega)]
    simp only [Option.bind_some]
    rw [h2 n (by omega)]
    simp only [Option.bind_some, if_true, bne_self_eq_false]
    exact h3'
  have stop : ∀ (x y : Int) (z : List Pix), Ev (fun k => laws_FnOpEach.j2 k true a b l o0 o1 o2 o3 o4 p0 p1 p2 p3 x y z) true := by
    intro x y z
    refine ev_succ ⟨0, fun k _ => ?_⟩
    show laws_FnOpEach.j2 (k + 1) true a b l o0 o1 o2 o3 o4 p0 p1 p2 p3 x y z = _
    rw [laws_FnOpEach.j2, if_pos rfl, eaOk_some]
    rfl
  cases hy : (doI a b l ⟨o0, o1, o2, o3, o4⟩).2.2.2 with
  | false =>
    refine Ev.step (fun k => ?_) (stop (doI a b l ⟨o0, o1, o2, o3, o4⟩).1 (doI a b l ⟨o0, o1, o2, o3, o4⟩).2.1 (doI a b l ⟨o0, o1, o2, o3, o4⟩).2.2.1)
    rw [laws_FnOpEach.j1, if_neg (by decide), if_neg (by decide)]
  | true =>
    cases hpk : okPB ⟨p0, p1, p2, p3⟩ with
    | false =>
      refine Ev.step (fun k => ?_) (stop (doI a b l ⟨o0, o1, o2, o3, o4⟩).1 (doI a b l ⟨o0, o1, o2, o3, o4⟩).2.1 (doI a b l ⟨o0, o1, o2, o3, o4⟩).2.2.1)
      rw [laws_FnOpEach.j1, if_neg (by decide), if_pos rfl, spec_PixOk_some, hpk]
      simp only [Option.bind_some]
      rw [if_neg (by decide)]
    | true =>
      by_cases h5 : o0 = 5
      · refine Ev.step (fun k => ?_) (stop (doI a b l ⟨o0, o1, o2, o3, o4⟩).1 (doI a b l ⟨o0, o1, o2, o3, o4⟩).2.1 (doI a b l ⟨o0, o1, o2, o3, o4⟩).2.2.1)
        rw [laws_FnOpEach.j1, if_neg (by decide), if_pos rfl, spec_PixOk_some, hpk]
        simp only [Option.bind_some, if_true]
        rw [if_pos h5]
      by_cases h6 : o0 = 6
      · refine Ev.step (fun k => ?_) (stop (doI a b l ⟨o0, o1, o2, o3, o4⟩).1 (doI a b l ⟨o0, o1, o2, o3, o4⟩).2.1 (doI a b l ⟨o0, o1, o2, o3, o4⟩).2.2.1)
        rw [laws_FnOpEach.j1, if_neg (by decide), if_pos rfl, spec_PixOk_some, hpk]
        simp only [Option.bind_some, if_true]
        rw [if_neg h5, if_pos h6]
      by_cases h8 : o0 = 8
      · refine Ev.step (fun k => ?_) (stop (doI a b l ⟨o0, o1, o2, o3, o4⟩).1 (doI a b l ⟨o0, o1, o2, o3, o4⟩).2.1 (doI a b l ⟨o0, o1, o2, o3, o4⟩).2.2.1)
        rw [laws_FnOpEach.j1, if_neg (by decide), if_pos rfl, spec_PixOk_some, hpk]
        simp only [Option.bind_some, if_true]
        rw [if_neg h5, if_neg h6, show (o0 == 8) = true by simpa using h8]
      have h8b : (o0 == 8) = false := by simpa using h8
      obtain ⟨wd, hg, rfl, rfl, hv, ho, hm, hD⟩ := doI_yes hy
      have hmv : isMove ⟨o0, o1, o2, o3, o4⟩ := ⟨h5, h6, h8⟩
      have hpp := (okPB_iff _).1 hpk
      have hFl : OkO ⟨8, p0, p1, p2, 0⟩ := okFlat hpp.1 hpp.2.1 hpp.2.2.1
      have hx := valid_picM ho hv hm
      have hG := valid_picM okGray hv rfl
      have hF := valid_picM hFl hv rfl
      have g1 : eaI [⟨5, 0, 0, 0, 0⟩] (wideM ⟨o0, o1, o2, o3, o4⟩ wd hg : Nat) (highM ⟨o0, o1, o2, o3, o4⟩ wd hg : Nat) (picM ⟨o0, o1, o2, o3, o4⟩ wd hg l) = ((wideM ⟨o0, o1, o2, o3, o4⟩ wd hg : Int), (highM ⟨o0, o1, o2, o3, o4⟩ wd hg : Int), picM ⟨o0, o1, o2, o3, o4⟩ wd hg (eachM grayP wd hg l)) := by
        rw [eaI_ok hx okGray rfl]
        rw [← each_move grayP ho hmv hv.1.1 hv.2.1.1 hm l]
        rfl
      have g2 : eaI [⟨5, 0, 0, 0, 0⟩, ⟨o0, o1, o2, o3, o4⟩] wd hg l = ((wideM ⟨o0, o1, o2, o3, o4⟩ wd hg : Int), (highM ⟨o0, o1, o2, o3, o4⟩ wd hg : Int), picM ⟨o0, o1, o2, o3, o4⟩ wd hg (eachM grayP wd hg l)) := by
        rw [eaI_ok hv okGray rfl]
        exact eaI_ok hG ho hm []
      have f1 : eaI [⟨8, p0, p1, p2, 0⟩] (wideM ⟨o0, o1, o2, o3, o4⟩ wd hg : Nat) (highM ⟨o0, o1, o2, o3, o4⟩ wd hg : Nat) (picM ⟨o0, o1, o2, o3, o4⟩ wd hg l) = ((wideM ⟨o0, o1, o2, o3, o4⟩ wd hg : Int), (highM ⟨o0, o1, o2, o3, o4⟩ wd hg : Int), picM ⟨o0, o1, o2, o3, o4⟩ wd hg (eachM (flatP p0 p1 p2) wd hg l)) := by
        rw [eaI_ok hx hFl rfl]
        rw [← each_move (flatP p0 p1 p2) ho hmv hv.1.1 hv.2.1.1 hm l]
        rfl
      have f2 : eaI [⟨8, p0, p1, p2, 0⟩, ⟨o0, o1, o2, o3, o4⟩] wd hg l = ((wideM ⟨o0, o1, o2, o3, o4⟩ wd hg : Int), (highM ⟨o0, o1, o2, o3, o4⟩ wd hg : Int), picM ⟨o0, o1, o2, o3, o4⟩ wd hg (eachM (flatP p0 p1 p2) wd hg l)) := by
        rw [eaI_ok hv hFl rfl]
        exact eaI_ok hF ho hm []
      have hd := dims_ok ho hv.1 hv.2.1
      have hle : wideM ⟨o0, o1, o2, o3, o4⟩ wd hg * highM ⟨o0, o1, o2, o3, o4⟩ wd hg ≤ 6 * 6 := Nat.mul_le_mul hd.1.2 hd.2.2
      have lg : ∀ q, (picM ⟨o0, o1, o2, o3, o4⟩ wd hg q).length ≤ 1048576 := fun q => by rw [picM_length]; omega
      obtain ⟨A1, a1⟩ := eaDo_ev [⟨5, 0, 0, 0, 0⟩] (by simp) (wideM ⟨o0, o1, o2, o3, o4⟩ wd hg : Nat) (highM ⟨o0, o1, o2, o3, o4⟩ wd hg : Nat) (picM ⟨o0, o1, o2, o3, o4⟩ wd hg l)
      obtain ⟨A2, a2⟩ := eaDo_ev [⟨5, 0, 0, 0, 0⟩, ⟨o0, o1, o2, o3, o4⟩] (by simp) wd hg l
      obtain ⟨A3, a3⟩ := eaRas_same (wideM ⟨o0, o1, o2, o3, o4⟩ wd hg : Nat) (highM ⟨o0, o1, o2, o3, o4⟩ wd hg : Nat) (picM ⟨o0, o1, o2, o3, o4⟩ wd hg (eachM grayP wd hg l)) (lg _)
      obtain ⟨A4, a4⟩ := eaDo_ev [⟨8, p0, p1, p2, 0⟩] (by simp) (wideM ⟨o0, o1, o2, o3, o4⟩ wd hg : Nat) (highM ⟨o0, o1, o2, o3, o4⟩ wd hg : Nat) (picM ⟨o0, o1, o2, o3, o4⟩ wd hg l)
      obtain ⟨A5, a5⟩ := eaDo_ev [⟨8, p0, p1, p2, 0⟩, ⟨o0, o1, o2, o3, o4⟩] (by simp) wd hg l
      obtain ⟨A6, a6⟩ := eaRas_same (wideM ⟨o0, o1, o2, o3, o4⟩ wd hg : Nat) (highM ⟨o0, o1, o2, o3, o4⟩ wd hg : Nat) (picM ⟨o0, o1, o2, o3, o4⟩ wd hg (eachM (flatP p0 p1 p2) wd hg l)) (lg _)
      dsimp only at a1 a2 a3 a4 a5 a6
      rw [g1] at a1
      rw [g2] at a2
      rw [f1] at a4
      rw [f2] at a5
      rw [hD]
      refine ⟨A1 + A2 + A3 + A4 + A5 + A6 + 2, fun n hn => ?_⟩
      obtain ⟨m, rfl⟩ : ∃ m, n = m + 2 := ⟨n - 2, by omega⟩
      dsimp only
      rw [laws_FnOpEach.j1, if_neg (by decide), if_pos rfl, spec_PixOk_some, hpk]
      simp only [Option.bind_some, if_true]
      rw [if_neg h5, if_neg h6, h8b, laws_FnOpEach.j2, if_neg (by decide), a1 m (by omega)]
      simp only [Option.bind_some]
      rw [a2 m (by omega)]
      simp only [Option.bind_some]
      rw [a3 m (by omega)]
      simp only [Option.bind_some, if_true]
      rw [a4 m (by omega)]
      simp only [Option.bind_some]
      rw [a5 m (by omega)]
      simp only [Option.bind_some]
      rw [a6 m (by omega)]
      rfl
end Go.Proofs.Ytoifpgkfpdeglaa.Pure
