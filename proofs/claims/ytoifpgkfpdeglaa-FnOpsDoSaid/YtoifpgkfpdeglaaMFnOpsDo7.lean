/- Lemmas and contracts for the law FnOpsDo, part 7: of the program's functions, and over data alone. No condition. -/
import Derived.Test.YtoifpgkfpdeglaaMFnOpsDo2
import Derived.Test.YtoifpgkfpdeglaaMFnOpsDo6
import Derived.Test.YtoifpgkfpdeglaaMFnOpsDo3
import Derived.Test.YtoifpgkfpdeglaaMFnOpsDo5
namespace Go.Proofs.Ytoifpgkfpdeglaa.X
open Go.RowKit Go.Proofs.YtoifpgkfpdeglaaW.PrintWords Go.Proofs.YtoifpgkfpdeglaaW.PrintLast Go.Proofs.YtoifpgkfpdeglaaW.PrintMore
attribute [local go_sem] max2_int min2_int max_two min_two max_three min_three max_four min_four
set_option linter.unusedVariables false
set_option linter.unusedSimpArgs false
section
open Go.Proofs.YtoifpgkfpdeglaaW.PrintWords.Aside0 renaming mk → yaa
open Go.Proofs.YtoifpgkfpdeglaaW.PrintWords renaming pw_below_drewN → yab, blk_below → yac, below_drew1 → yad, below_alloc → yae, below_set → yal, Aside0 → yap, blk_cell → yat, cell_far → ybe, below_size → ybf, below_step → ybg, blk_lt → ybi, add_block → ybk, blk_far → ybl, blk_put → ybn
open Go.Proofs.YtoifpgkfpdeglaaW.PrintWords.Kd renaming Q_far → yaf, R_far → yag, R_below → yah, own_blk → yai, Q_below → yaj, Q_drew → yak, Q_alloc → yam, Q_drewN → yan, Q_mono → yao, R_alloc → yaq, R_drewN → yar, R_drew → yas, R_mono → yau, Q_elder' → yav, R_ne → yaw, Q_types → yax, R_types → yay, R_reads' → yaz, R_new' → yba, R_base → ybb, C_alloc → ybc, C_drewN → ybd, Q_reads' → ybh, C_drew → ybj, Q_lt → ybm
open Go.Proofs.Ytoifpgkfpdeglaa.X renaming rd_T27 → ybo
abbrev q8_0 : Array Bool := Array.replicate 12 false
abbrev q8_1 : Array Bool := bl_ 12 2
abbrev q8_2 : Array Bool := bl_ 12 6
abbrev q8_3 : Array Bool := bl_ 12 14
abbrev q8_4 : Array Bool := bl_ 12 15
abbrev q8_5 : Array Bool := bl_ 12 31
abbrev q8_6 : Array Bool := bl_ 12 1023
abbrev q8_7 : Array Bool := bl_ 12 63
abbrev q8_8 : Array Bool := bl_ 12 543
abbrev q8_9 : Array Bool := bl_ 12 127
abbrev q8_10 : Array Bool := bl_ 12 255
abbrev q8_11 : Array Bool := bl_ 12 511
abbrev q8_12 : Array Bool := bl_ 12 575
abbrev q8_13 : Array Bool := bl_ 12 639
abbrev q8_14 : Array Bool := bl_ 12 767
abbrev q8_15 : Array Bool := bl_ 12 2047
abbrev q8_16 : Array Bool := bl_ 12 4095
abbrev q8_17 : Array Bool := Array.replicate 11 false
abbrev q8_18 : Array Bool := #[false, true, false, false, false, false, false, false, false, false, false]
abbrev q8_19 : Array Bool := #[false, true, true, false, false, false, false, false, false, false, false]
abbrev q8_20 : Array Bool := #[false, true, true, true, false, false, false, false, false, false, false]
abbrev q8_21 : Array Bool := #[true, true, true, true, false, false, false, false, false, false, false]
abbrev q8_22 : Array Bool := #[true, true, true, true, true, true, true, true, true, false, false]
abbrev q8_23 : Array Bool := #[true, true, true, true, true, false, false, false, false, false, false]
abbrev q8_24 : Array Bool := #[true, true, true, true, false, false, false, false, true, false, false]
abbrev q8_25 : Array Bool := #[true, true, true, true, true, true, false, false, false, false, false]
abbrev q8_26 : Array Bool := #[true, true, true, true, true, true, true, false, false, false, false]
abbrev q8_27 : Array Bool := #[true, true, true, true, true, true, true, true, false, false, false]
abbrev q8_28 : Array Bool := #[true, true, true, true, true, false, false, false, true, false, false]
abbrev q8_29 : Array Bool := #[true, true, true, true, true, true, false, false, true, false, false]
abbrev q8_30 : Array Bool := #[true, true, true, true, true, true, true, false, true, false, false]
abbrev q8_31 : Array Bool := #[true, true, true, true, true, true, true, true, true, true, false]
abbrev q8_32 : Array Bool := #[true, true, true, true, true, true, true, true, true, true, true]
mutual
def laws_FnOpsDo.j0 : Nat → List (S27) → Bool → Bool → Int → Int → List (S36) → Int → Int → List (S36) → Option (Bool)
 | 0, _, _, _, _, _, _, _, _, _ => none
 | k + 1, x4, x6, x48, x110000, x110001, x110002, x117000, x117001, x117002 => if x48 = true then (some false) else (if x6 = true then (laws_FnOpsDo.l0 k x4 0 x110000 x110001 x110002 x117000 x117001 x117002 x110000 x110001 x110002) else (if (x117002.length : Int) = 0 then ((laws_eaOk.f).bind fun t125 => (some t125)) else (some false)))
def laws_FnOpsDo.l0 : Nat → List (S27) → Int → Int → Int → List (S36) → Int → Int → List (S36) → Int → Int → List (S36) → Option (Bool)
 | 0, _, _, _, _, _, _, _, _, _, _, _ => none
 | k + 1, x4, x10, x110000, x110001, x110002, x117000, x117001, x117002, x127000, x127001, x127002 => if x10 < (x4.length : Int) then (if 0 ≤ x10 then ((impl_OpDo.f x127000 x127001 x127002 ((rd_T27 x4 x10).f0) ((rd_T27 x4 x10).f1) ((rd_T27 x4 x10).f2) ((rd_T27 x4 x10).f3) ((rd_T27 x4 x10).f4)).bind fun bt128 => (if bt128.2.2.2 = true then (laws_FnOpsDo.l0 k x4 (wrap64 (x10 + 1)) x110000 x110001 x110002 x117000 x117001 x117002 bt128.1 bt128.2.1 bt128.2.2.1) else (some false))) else (none)) else (if 0 ≤ (wrap64 ((x4.length : Int) / 2)) then (if (wrap64 ((x4.length : Int) / 2)) ≤ (x4.length : Int) then ((impl_OpsDo.f x110000 x110001 x110002 (x4.take ((wrap64 ((x4.length : Int) / 2)) : Int).toNat)).bind fun bt139 => ((impl_OpsDo.f bt139.1 bt139.2.1 bt139.2.2.1 (x4.drop ((wrap64 ((x4.length : Int) / 2)) : Int).toNat)).bind fun bt150 => ((impl_OpsDo.f x110000 x110001 x110002 (([] : List (S27)))).bind fun bt160 => ((laws_eaRas.f k x127000 x127001 x127002 x117000 x117001 x117002).bind fun t167 => (if t167 = true then (if bt139.2.2.2 = true then (if bt150.2.2.2 = true then (if bt160.2.2.2 = true then ((laws_eaRas.f k bt150.1 bt150.2.1 bt150.2.2.1 x117000 x117001 x117002).bind fun t168 => (if t168 = true then ((laws_eaRas.f k bt160.1 bt160.2.1 bt160.2.2.1 x110000 x110001 x110002).bind fun t169 => (if t169 = true then ((impl_RasOk.f k x117000 x117001 x117002).bind fun t170 => (some t170)) else (some false))) else (some false))) else (some false)) else (some false)) else (some false)) else (some false)))))) else (none)) else (none))
end
def laws_FnOpsDo.f (k : Nat) (l0 : List Int) : Option (Bool) := if (l0.length : Int) > 1048576 then (some true) else ((spec_DrawOpsDo.f k l0).bind fun bt101 => ((impl_OpsDo.f bt101.1 bt101.2.1 bt101.2.2.1 bt101.2.2.2).bind fun bt110 => ((spec_OpsDo.f k bt101.1 bt101.2.1 bt101.2.2.1 bt101.2.2.2).bind fun bt117 => ((laws_eaRas.f k bt110.1 bt110.2.1 bt110.2.2.1 bt117.1 bt117.2.1 bt117.2.2.1).bind fun t124 => (if t124 = true then (laws_FnOpsDo.j0 k bt101.2.2.2 bt110.2.2.2 (bt110.2.2.2 != bt117.2.2.2) bt101.1 bt101.2.1 bt101.2.2.1 bt110.1 bt110.2.1 bt110.2.2.1) else (laws_FnOpsDo.j0 k bt101.2.2.2 bt110.2.2.2 true bt101.1 bt101.2.1 bt101.2.2.1 bt110.1 bt110.2.1 bt110.2.2.1))))))
def laws_FnOpsDo.T14 : Bool × List (List Nat × List Nat) := (true, [([], []), ([], []), ([], []), ([1, 2], [1, 2]), ([3], [3]), ([0, 4], [0, 4]), ([5], [5]), ([6], [6]), ([6], [6]), ([], []), ([9, 7, 5, 0, 1, 2, 3, 4, 5, 6, 7, 9], [7, 9]), ([8, 10, 0, 1, 2, 3, 4, 5, 6, 7, 8, 9, 10], [8])])
def laws_FnOpsDo.B14 : List Nat := [0, 0, 0, 6, 14, 31, 63, 127, 127, 0, 767, 2047]
theorem laws_FnOpsDo.tab14 : rtab .any (opsOf Try.f8 14) = laws_FnOpsDo.T14 := by kernel_rfl
theorem laws_FnOpsDo.bits14 : waitsOk laws_FnOpsDo.T14.2 laws_FnOpsDo.B14 = true := by kernel_rfl
def laws_FnOpsDo.T19 : Bool × List (List Nat × List Nat) := (true, [([], []), ([], []), ([], []), ([1, 2], [1, 2]), ([0, 3], [0, 3]), ([4], [4]), ([5], [5]), ([5], [5]), ([], []), ([8, 6, 4, 0, 1, 2, 3, 4, 5, 6, 8], [6, 8]), ([7, 9, 0, 1, 2, 3, 4, 5, 6, 7, 8, 9], [7])])
def laws_FnOpsDo.B19 : List Nat := [0, 0, 0, 6, 15, 31, 63, 63, 0, 383, 1023]
theorem laws_FnOpsDo.tab19 : rtab .any (opsOf Try.f8 19) = laws_FnOpsDo.T19 := by kernel_rfl
theorem laws_FnOpsDo.bits19 : waitsOk laws_FnOpsDo.T19.2 laws_FnOpsDo.B19 = true := by kernel_rfl
def laws_FnOpsDo.T20 : Bool × List (List Nat × List Nat) := (true, [([], []), ([], []), ([], []), ([1, 2], [1, 2]), ([0, 3], [0, 3]), ([4], [4]), ([5], [5]), ([5], [5]), ([], []), ([8, 6, 4, 0, 1, 2, 3, 4, 5, 6, 8], [6, 8]), ([7, 9, 0, 1, 2, 3, 4, 5, 6, 7, 8, 9], [7])])
def laws_FnOpsDo.B20 : List Nat := [0, 0, 0, 6, 15, 31, 63, 63, 0, 383, 1023]
theorem laws_FnOpsDo.tab20 : rtab .any (opsOf Try.f8 20) = laws_FnOpsDo.T20 := by kernel_rfl
theorem laws_FnOpsDo.bits20 : waitsOk laws_FnOpsDo.T20.2 laws_FnOpsDo.B20 = true := by kernel_rfl
set_option maxHeartbeats 8000000 in
set_option maxRecDepth 100000 in
theorem laws_FnOpsDo.calls (k : Nat) (A0 : Option Addr) (c0 : Nat) (l0 : List Int) (r : Bool) (w : World) (hr0 : Kd.C (Kd.int .u8) w A0 l0.length l0) (hc0 : l0.length ≤ c0) (h : laws_FnOpsDo.f k l0 = some r) (hrt : r = true) :
  Calls Try.prog 8 #[.slice A0 l0.length c0] w fun e w' => e = .returned (.bool r) ∧ Below w.heap.size w w' := by
 have hu25 := Try.underlying25; have hu27 := Try.underlying27; have HR0 := yaa hr0; have HC0 := yaa hc0; clear hr0 hc0; have HB := yaa (Below.refl w.heap.size w); have H : (if (l0.length : Int) > 1048576 then (some true) else ((spec_DrawOpsDo.f k l0).bind fun k7 => ((impl_OpsDo.f k7.1 k7.2.1 k7.2.2.1 k7.2.2.2).bind fun m3 => ((spec_OpsDo.f k k7.1 k7.2.1 k7.2.2.1 k7.2.2.2).bind fun q1 => ((laws_eaRas.f k m3.1 m3.2.1 m3.2.2.1 q1.1 q1.2.1 q1.2.2.1).bind fun B2 => (if B2 = true then (laws_FnOpsDo.j0 k k7.2.2.2 m3.2.2.2 (m3.2.2.2 != q1.2.2.2) k7.1 k7.2.1 k7.2.2.1 m3.1 m3.2.1 m3.2.2.1) else (laws_FnOpsDo.j0 k k7.2.2.2 m3.2.2.2 true k7.1 k7.2.1 k7.2.2.1 m3.1 m3.2.1 m3.2.2.1))))))) = some r := h; clear h
 by_cases c2 : (l0.length : Int) > 1048576
 ·
  rw [if_pos c2] at H
  have B3 : decide (1048576 < (l0.length : Int)) = true := decide_eq_true c2; have B4 : decide (1048576 < l0.length) = true := decide_eq_true (by omega); clear c2; obtain rfl := Option.some.inj H
  go_enter Try.func8, Try.ntmps8
  go_wp2
  go_ret
  exact ⟨by first | rfl | (simp [*, errW_none, errW_some] <;> rfl), upH HB.out⟩
 ·
  rw [if_neg c2] at H
  have B3 : decide (1048576 < (l0.length : Int)) = false := decide_eq_false c2; have B4 : decide (1048576 < l0.length) = false := decide_eq_false (by omega); clear c2; obtain ⟨⟨e5, e6, c5, c9⟩, A3, H⟩ := bindA H; (try dsimp only at H); obtain ⟨⟨g0, g1, c6, z1⟩, A4, H⟩ := bindA H; (try dsimp only at H); obtain ⟨⟨g8, h7, d0, C1⟩, A5, H⟩ := bindA H; (try dsimp only at H); have HC6 := yaa H; clear H
  go_enter Try.func8, Try.ntmps8
  go_upto_region 6 with (first | ((with_reducible refine gc_ 26 rfl ?_); refine gl_ (some 25) rfl Try.func26 #[.slice A0 l0.length c0] ?_; (with_reducible refine (spec_DrawOpsDo.calls k _ _ l0 e5 e6 c5 c9 _ ?side1 ?side2 A3.out).mono ?_); (case side1 => repeat (first | exact HR0.out | (with_reducible refine ybc ?_ _) | (with_reducible refine ybd ?_ _) | (with_reducible refine ybj ?_))); (case side2 => exact HC0.out); rintro e w7 ⟨bW, bX, rfl, ho0, ho1, hb⟩; refine ⟨_, rfl, ?_⟩; have g4 := yaa (Kd.Q_lower ho0 (ybf (upH HB.out))); have g5 := yaa (Kd.R_lower ho1 (ybf (upH HB.out))); replace HB := yaa (ybg (upH HB.out) hb); (try clear hb ho0 ho1)) | ((with_reducible refine gd_ 3 rfl ?_); refine bx_ 3 rfl #[.int .i64 0, .int .i64 0, .slice none 0 0] 25 ?_; intro b9 hg w8 hbox hb; replace g4 := yaa (yaj (upQ g4.out) hb); replace g5 := yaa (yah (upR g5.out) hb); have a5 := yaa (hbox); have C2 := yaa ((by rw [hg]; exact (ybf (upH HB.out)) : w.heap.size ≤ b9)); replace HB := yaa (ybg (upH HB.out) hb); have Y8 := C2; clear hb hbox hg; obtain ⟨x1, x2, x3⟩ := cc3_ a5.out; obtain ⟨x5, x7, x8⟩ := cf3_ a5.out; obtain ⟨d6, d3, S8, _⟩ := Kd.Q_slice g4.out; subst S8; obtain ⟨n0, l3, S9⟩ := Kd.R_slice g5.out; subst S9) | ((with_reducible refine gc_ 27 rfl ?_); refine gl_ (some 31) rfl Try.func27 #[.agg #[.int .i64 e5, .int .i64 e6, .slice d6 c5.length d3], .slice n0 c9.length l3] ?_; (with_reducible refine (impl_OpsDo.calls e5 e6 _ _ c5 _ _ c9 g0 g1 c6 z1 _ ?side1 ?side2 ?side3 ?side4 A4.out).mono ?_); (case side1 => refine (ybh (e := 36) (base := w.heap.size) (ok := fun k_ => True) (n := c5.length) (c := d3) ?_).2.2; exact (by (with_reducible repeat (first | apply yam | apply yan | apply yak)); exact (yao (yaf (p := ⟨b9, 2, none⟩) (yaf (p := ⟨b9, 1, none⟩) (yaf (p := ⟨b9, 0, none⟩) (yax g4.out a5.out (by decide)) (fun _ hk => hk.2) (.int .i64 e5)) (fun _ hk => hk.2) (.int .i64 e6)) (fun _ hk => hk.2) (.slice d6 c5.length d3)) (fun _ h_ => h_.1)))); (case side2 => exact (ybh g4.out).2.1); (case side3 => refine (yaz (e := 27) (base := w.heap.size) (ok := fun k_ => True) (n := c9.length) (c := l3) ?_).2.2; exact (by (with_reducible repeat (first | apply yaq | apply yar | apply yas)); exact (yau (yag (p := ⟨b9, 2, none⟩) (yag (p := ⟨b9, 1, none⟩) (yag (p := ⟨b9, 0, none⟩) (yay g5.out a5.out (by decide)) (fun _ hk => hk.2) (.int .i64 e5)) (fun _ hk => hk.2) (.int .i64 e6)) (fun _ hk => hk.2) (.slice d6 c5.length d3)) (fun _ h_ => h_.1)))); (case side4 => exact (yaz g5.out).2.1); rintro e w12 ⟨bY, rfl, ho0, hb⟩; refine ⟨_, rfl, ?_⟩; replace g5 := yaa (yah (by (with_reducible repeat (first | apply yaq | apply yar | apply yas)); exact (yau (yag (p := ⟨b9, 2, none⟩) (yag (p := ⟨b9, 1, none⟩) (yag (p := ⟨b9, 0, none⟩) (yay g5.out a5.out (by decide)) (fun _ hk => hk.2) (.int .i64 e5)) (fun _ hk => hk.2) (.int .i64 e6)) (fun _ hk => hk.2) (.slice d6 c5.length d3)) (fun _ h_ => h_.1))) hb); have j6 := yaa (Kd.R_lower (yba ho0 (ybm (by (with_reducible repeat (first | apply yam | apply yan | apply yak)); exact (yao (yaf (p := ⟨b9, 2, none⟩) (yaf (p := ⟨b9, 1, none⟩) (yaf (p := ⟨b9, 0, none⟩) (yax g4.out a5.out (by decide)) (fun _ hk => hk.2) (.int .i64 e5)) (fun _ hk => hk.2) (.int .i64 e6)) (fun _ hk => hk.2) (.slice d6 c5.length d3)) (fun _ h_ => h_.1))))) (ybf (by repeat (with_reducible first | exact HB.out | apply yae | apply yab | apply yad | refine yal ?_ (Aside0.out ‹_›))))); replace g4 := yaa (yav (by (with_reducible repeat (first | apply yam | apply yan | apply yak)); exact (yao (yaf (p := ⟨b9, 2, none⟩) (yaf (p := ⟨b9, 1, none⟩) (yaf (p := ⟨b9, 0, none⟩) (yax g4.out a5.out (by decide)) (fun _ hk => hk.2) (.int .i64 e5)) (fun _ hk => hk.2) (.int .i64 e6)) (fun _ hk => hk.2) (.slice d6 c5.length d3)) (fun _ h_ => h_.1))) (ybb ho0) hb); replace a5 := yaa (yac (g := b9) (o := .cells #[.int .i64 e5, .int .i64 e6, .slice d6 c5.length d3] 25 (0, 0)) (by (repeat refine oneB ?_); refine ybn (cs := #[.int .i64 e5, .int .i64 e6, .slice none 0 0]) ?_ 2 _ rfl; refine ybn (cs := #[.int .i64 e5, .int .i64 0, .slice none 0 0]) ?_ 1 _ rfl; refine ybn (cs := #[.int .i64 0, .int .i64 0, .slice none 0 0]) ?_ 0 _ rfl; exact upB a5.out) hb); replace HB := yaa (ybg (by repeat (with_reducible first | exact HB.out | apply yae | apply yab | apply yad | refine yal ?_ (Aside0.out ‹_›))) hb); (try clear hb ho0)) | ((with_reducible refine gd_ 5 rfl ?_); refine bx_ 5 rfl #[.int .i64 0, .int .i64 0, .slice none 0 0] 25 ?_; intro c7 hg w13 hbox hb; replace g4 := yaa (yaj (upQ g4.out) hb); replace g5 := yaa (yah (upR g5.out) hb); replace j6 := yaa (yah (upR j6.out) hb); have a6 := yaa (hbox); have C3 := yaa ((by rw [hg]; exact (ybf (by repeat (with_reducible first | exact HB.out | apply yae | apply yab | apply yad | refine yal ?_ (Aside0.out ‹_›)))) : w.heap.size ≤ c7)); replace HB := yaa (ybg (by repeat (with_reducible first | exact HB.out | apply yae | apply yab | apply yad | refine yal ?_ (Aside0.out ‹_›))) hb); have Y9 := C3; have h9 := yaa ((by rw [hg]; exact Nat.ne_of_lt (ybi (upB a5.out)) : b9 ≠ c7)); replace a5 := yaa (yac (upB a5.out) hb); have k8 := yaa h9.out.symm; clear hb hbox hg; have Z0 := k8.out; have Z1 := h9.out; obtain ⟨q2, q3, q4⟩ := cc3_ a6.out; obtain ⟨q5, q6, q7⟩ := cf3_ a6.out; obtain ⟨e1, d7, T0⟩ := Kd.R_slice j6.out; subst T0; obtain ⟨q8, q9, r0⟩ := cc3_ a5.out; obtain ⟨r1, r2⟩ := cf2_ a5.out; have r3 := blk_frozen a5.out 2) | ((with_reducible refine gc_ 28 rfl ?_); refine gl_ (some 37) rfl Try.func28 #[.agg #[.int .i64 e5, .int .i64 e6, .slice d6 c5.length d3], .slice n0 c9.length l3] ?_; (with_reducible refine (spec_OpsDo.calls k e5 e6 _ _ c5 _ _ c9 g8 h7 d0 C1 _ ?side1 ?side2 ?side3 ?side4 A5.out).mono ?_); (case side1 => refine (ybh (e := 36) (base := w.heap.size) (ok := fun k_ => (True ∧ some k_ ≠ (.slice e1 c6.length d7 : Value).ownBlock)) (n := c5.length) (c := d3) ?_).2.2; exact (by (with_reducible repeat (first | apply yam | apply yan | apply yak)); exact (yao (yaf (p := ⟨c7, 2, none⟩) (yaf (p := ⟨c7, 1, none⟩) (yaf (p := ⟨c7, 0, none⟩) (yax g4.out a6.out (by decide)) (fun _ hk => hk.2) (.int .i64 g0)) (fun _ hk => hk.2) (.int .i64 g1)) (fun _ hk => hk.2) (.slice e1 c6.length d7)) (fun _ h_ => h_.1)))); (case side2 => exact (ybh g4.out).2.1); (case side3 => refine (yaz (e := 27) (base := w.heap.size) (ok := fun k_ => True) (n := c9.length) (c := l3) ?_).2.2; exact (by (with_reducible repeat (first | apply yaq | apply yar | apply yas)); exact (yau (yag (p := ⟨c7, 2, none⟩) (yag (p := ⟨c7, 1, none⟩) (yag (p := ⟨c7, 0, none⟩) (yay g5.out a6.out (by decide)) (fun _ hk => hk.2) (.int .i64 g0)) (fun _ hk => hk.2) (.int .i64 g1)) (fun _ hk => hk.2) (.slice e1 c6.length d7)) (fun _ h_ => h_.1)))); (case side4 => exact (yaz g5.out).2.1); rintro e w18 ⟨bZ, rfl, ho0, hb⟩; refine ⟨_, rfl, ?_⟩; replace g5 := yaa (yah (by (with_reducible repeat (first | apply yaq | apply yar | apply yas)); exact (yau (yag (p := ⟨c7, 2, none⟩) (yag (p := ⟨c7, 1, none⟩) (yag (p := ⟨c7, 0, none⟩) (yay g5.out a6.out (by decide)) (fun _ hk => hk.2) (.int .i64 g0)) (fun _ hk => hk.2) (.int .i64 g1)) (fun _ hk => hk.2) (.slice e1 c6.length d7)) (fun _ h_ => h_.1))) hb); have l9 := yaa (Kd.R_lower (yba (yba ho0 (ybm (by (with_reducible repeat (first | apply yam | apply yan | apply yak)); exact (yao (yaf (p := ⟨c7, 2, none⟩) (yaf (p := ⟨c7, 1, none⟩) (yaf (p := ⟨c7, 0, none⟩) (yax g4.out a6.out (by decide)) (fun _ hk => hk.2) (.int .i64 g0)) (fun _ hk => hk.2) (.int .i64 g1)) (fun _ hk => hk.2) (.slice e1 c6.length d7)) (fun _ h_ => h_.1))))) (Kd.R_lt (by (with_reducible repeat (first | apply yaq | apply yar | apply yas)); exact (yau (yag (p := ⟨c7, 2, none⟩) (yag (p := ⟨c7, 1, none⟩) (yag (p := ⟨c7, 0, none⟩) (yay j6.out a6.out (by decide)) (fun _ hk => hk.2) (.int .i64 g0)) (fun _ hk => hk.2) (.int .i64 g1)) (fun _ hk => hk.2) (.slice e1 c6.length d7)) (fun _ h_ => h_.1))))) (ybf (by repeat (with_reducible first | exact HB.out | apply yae | apply yab | apply yad | refine yal ?_ (Aside0.out ‹_›))))); replace g4 := yaa (yav (by (with_reducible repeat (first | apply yam | apply yan | apply yak)); exact (yao (yaf (p := ⟨c7, 2, none⟩) (yaf (p := ⟨c7, 1, none⟩) (yaf (p := ⟨c7, 0, none⟩) (yax g4.out a6.out (by decide)) (fun _ hk => hk.2) (.int .i64 g0)) (fun _ hk => hk.2) (.int .i64 g1)) (fun _ hk => hk.2) (.slice e1 c6.length d7)) (fun _ h_ => h_.1))) (ybb ho0) hb); replace j6 := yaa (Kd.R_elder' (by (with_reducible repeat (first | apply yaq | apply yar | apply yas)); exact (yau (yag (p := ⟨c7, 2, none⟩) (yag (p := ⟨c7, 1, none⟩) (yag (p := ⟨c7, 0, none⟩) (yay j6.out a6.out (by decide)) (fun _ hk => hk.2) (.int .i64 g0)) (fun _ hk => hk.2) (.int .i64 g1)) (fun _ hk => hk.2) (.slice e1 c6.length d7)) (fun _ h_ => h_.1))) (ybb ho0) hb); replace a5 := yaa (yac (g := b9) (o := .cells #[.int .i64 e5, .int .i64 e6, .slice d6 c5.length d3] 25 (0, 0)) (by repeat (with_reducible first | exact a5.out | refine oneB ?_ | refine ybl ?_ h9.out _)) hb); replace a6 := yaa (yac (g := c7) (o := .cells #[.int .i64 g0, .int .i64 g1, .slice e1 c6.length d7] 25 (0, 0)) (by (repeat refine oneB ?_); refine ybn (cs := #[.int .i64 g0, .int .i64 g1, .slice none 0 0]) ?_ 2 _ rfl; refine ybn (cs := #[.int .i64 g0, .int .i64 0, .slice none 0 0]) ?_ 1 _ rfl; refine ybn (cs := #[.int .i64 0, .int .i64 0, .slice none 0 0]) ?_ 0 _ rfl; exact upB a6.out) hb); replace HB := yaa (ybg (by repeat (with_reducible first | exact HB.out | apply yae | apply yab | apply yad | refine yal ?_ (Aside0.out ‹_›))) hb); (try clear hb ho0)) | ((with_reducible refine gd_ 7 rfl ?_); refine bx_ 7 rfl #[.int .i64 0, .int .i64 0, .slice none 0 0] 25 ?_; intro b4 hg w19 hbox hb; replace g4 := yaa (yaj (upQ g4.out) hb); replace g5 := yaa (yah (upR g5.out) hb); replace j6 := yaa (yah (upR j6.out) hb); replace l9 := yaa (yah (upR l9.out) hb); have a8 := yaa (hbox); have C4 := yaa ((by rw [hg]; exact (ybf (by repeat (with_reducible first | exact HB.out | apply yae | apply yab | apply yad | refine yal ?_ (Aside0.out ‹_›)))) : w.heap.size ≤ b4)); replace HB := yaa (ybg (by repeat (with_reducible first | exact HB.out | apply yae | apply yab | apply yad | refine yal ?_ (Aside0.out ‹_›))) hb); have Z2 := C4; have i0 := yaa ((by rw [hg]; exact Nat.ne_of_lt (ybi (upB a5.out)) : b9 ≠ b4)); replace a5 := yaa (yac (upB a5.out) hb); have m0 := yaa i0.out.symm; have i1 := yaa ((by rw [hg]; exact Nat.ne_of_lt (ybi (upB a6.out)) : c7 ≠ b4)); replace a6 := yaa (yac (upB a6.out) hb); have m1 := yaa i1.out.symm; clear hb hbox hg; have Z3 := m0.out; have Z4 := i0.out; have Z5 := m1.out; have Z6 := i1.out; obtain ⟨r4, r5, r6⟩ := cc3_ a8.out; obtain ⟨r7, r8, r9⟩ := cf3_ a8.out; obtain ⟨d8, d4, T1⟩ := Kd.R_slice l9.out; subst T1))
  (try simp only [Act.put, List.setIfInBounds_toArray, List.set_cons_zero, List.set_cons_succ])
  go_cut [48] (fun v48 wc => ∃ (kq : Nat) (s0 : Bool), v48 = .bool s0 ∧ yap (laws_FnOpsDo.j0 kq c9 z1 s0 e5 e6 c5 g0 g1 c6 = some r) ∧ yap (kq ≤ k) ∧ yap (Kd.R k27 27 wc w.heap.size (fun _ => True) (.slice n0 c9.length l3) c9) ∧ yap (Kd.Q k36 36 wc w.heap.size (fun k_ => some k_ ≠ ((.slice e1 c6.length d7) : Value).ownBlock ∧ some k_ ≠ ((.slice d8 d0.length d4) : Value).ownBlock) (.slice d6 c5.length d3) c5) ∧ yap (Kd.Q k36 36 wc w.heap.size (fun k_ => some k_ ≠ ((.slice d6 c5.length d3) : Value).ownBlock ∧ some k_ ≠ ((.slice d8 d0.length d4) : Value).ownBlock) (.slice e1 c6.length d7) c6) ∧ yap (Kd.Q k36 36 wc w.heap.size (fun k_ => some k_ ≠ ((.slice d6 c5.length d3) : Value).ownBlock ∧ some k_ ≠ ((.slice e1 c6.length d7) : Value).ownBlock) (.slice d8 d0.length d4) d0) ∧ yap (wc.heap[b9]? = some (.cells #[.int .i64 e5, .int .i64 e6, (.slice d6 c5.length d3)] 25 (0, 0))) ∧ yap (wc.heap[c7]? = some (.cells #[.int .i64 g0, .int .i64 g1, (.slice e1 c6.length d7)] 25 (0, 0))) ∧ yap (wc.heap[b4]? = some (.cells #[.int .i64 g8, .int .i64 h7, (.slice d8 d0.length d4)] 25 (0, 0))) ∧ yap (Below w.heap.size w wc))
  case first =>
   have H := HC6.out; clear HC6; obtain ⟨B2, A24, H⟩ := bindA H; (try dsimp only at H)
   by_cases c25 : B2 = true
   ·
    subst c25
    rw [if_pos rfl] at H
    have H' := yaa H; clear H; have Z7 := k8.out; have Z8 := h9.out; have Z9 := i1.out; have aA := m1.out; obtain ⟨s1, s2, s3⟩ := cc3_ a6.out; obtain ⟨s4, s5, s6⟩ := cf3_ a6.out; have aB := m0.out; have aC := i0.out; obtain ⟨s7, s8, s9⟩ := cc3_ a8.out; obtain ⟨t0, t1, t2⟩ := cf3_ a8.out
    go_wp2_with (first | ((with_reducible refine gc_ 13 rfl ?_); refine gl_ (some 42) rfl Try.func13 #[.agg #[.int .i64 g0, .int .i64 g1, .slice e1 c6.length d7], .agg #[.int .i64 g8, .int .i64 h7, .slice d8 d0.length d4]] ?_; (with_reducible refine (laws_eaRas.calls k g0 g1 _ _ c6 g8 h7 _ _ d0 true _ ?side1 ?side2 ?side3 ?side4 A24.out).mono ?_); (case side1 => refine (yaz (e := 36) (base := w.heap.size) (ok := fun k_ => ((True ∧ some k_ ≠ (.slice d6 c5.length d3 : Value).ownBlock) ∧ some k_ ≠ (.slice d8 d0.length d4 : Value).ownBlock)) (n := c6.length) (c := d7) ?_).2.2; exact (by (with_reducible repeat (first | apply yaq | apply yar | apply yas)); exact (yau (yag (p := ⟨b4, 2, none⟩) (yag (p := ⟨b4, 1, none⟩) (yag (p := ⟨b4, 0, none⟩) (yay j6.out a8.out (by decide)) (fun _ hk => hk.2) (.int .i64 g8)) (fun _ hk => hk.2) (.int .i64 h7)) (fun _ hk => hk.2) (.slice d8 d0.length d4)) (fun _ h_ => h_.1)))); (case side2 => exact (yaz j6.out).2.1); (case side3 => refine (yaz (e := 36) (base := w.heap.size) (ok := fun k_ => ((True ∧ some k_ ≠ (.slice d6 c5.length d3 : Value).ownBlock) ∧ some k_ ≠ (.slice e1 c6.length d7 : Value).ownBlock)) (n := d0.length) (c := d4) ?_).2.2; exact (by (with_reducible repeat (first | apply yaq | apply yar | apply yas)); exact (yau (yag (p := ⟨b4, 2, none⟩) (yag (p := ⟨b4, 1, none⟩) (yag (p := ⟨b4, 0, none⟩) (yay l9.out a8.out (by decide)) (fun _ hk => hk.2) (.int .i64 g8)) (fun _ hk => hk.2) (.int .i64 h7)) (fun _ hk => hk.2) (.slice d8 d0.length d4)) (fun _ h_ => h_.1)))); (case side4 => exact (yaz l9.out).2.1); rintro e w31 ⟨rfl, hb⟩; refine ⟨_, rfl, ?_⟩; replace g4 := yaa (yaj (by (with_reducible repeat (first | apply yam | apply yan | apply yak)); exact (yao (yaf (p := ⟨b4, 2, none⟩) (yaf (p := ⟨b4, 1, none⟩) (yaf (p := ⟨b4, 0, none⟩) (yax g4.out a8.out (by decide)) (fun _ hk => hk.2) (.int .i64 g8)) (fun _ hk => hk.2) (.int .i64 h7)) (fun _ hk => hk.2) (.slice d8 d0.length d4)) (fun _ h_ => h_.1))) hb); replace g5 := yaa (yah (by (with_reducible repeat (first | apply yaq | apply yar | apply yas)); exact (yau (yag (p := ⟨b4, 2, none⟩) (yag (p := ⟨b4, 1, none⟩) (yag (p := ⟨b4, 0, none⟩) (yay g5.out a8.out (by decide)) (fun _ hk => hk.2) (.int .i64 g8)) (fun _ hk => hk.2) (.int .i64 h7)) (fun _ hk => hk.2) (.slice d8 d0.length d4)) (fun _ h_ => h_.1))) hb); replace j6 := yaa (yah (by (with_reducible repeat (first | apply yaq | apply yar | apply yas)); exact (yau (yag (p := ⟨b4, 2, none⟩) (yag (p := ⟨b4, 1, none⟩) (yag (p := ⟨b4, 0, none⟩) (yay j6.out a8.out (by decide)) (fun _ hk => hk.2) (.int .i64 g8)) (fun _ hk => hk.2) (.int .i64 h7)) (fun _ hk => hk.2) (.slice d8 d0.length d4)) (fun _ h_ => h_.1))) hb); replace l9 := yaa (yah (by (with_reducible repeat (first | apply yaq | apply yar | apply yas)); exact (yau (yag (p := ⟨b4, 2, none⟩) (yag (p := ⟨b4, 1, none⟩) (yag (p := ⟨b4, 0, none⟩) (yay l9.out a8.out (by decide)) (fun _ hk => hk.2) (.int .i64 g8)) (fun _ hk => hk.2) (.int .i64 h7)) (fun _ hk => hk.2) (.slice d8 d0.length d4)) (fun _ h_ => h_.1))) hb); replace a5 := yaa (yac (g := b9) (o := .cells #[.int .i64 e5, .int .i64 e6, .slice d6 c5.length d3] 25 (0, 0)) (by repeat (with_reducible first | exact a5.out | refine oneB ?_ | refine ybl ?_ i0.out _)) hb); replace a6 := yaa (yac (g := c7) (o := .cells #[.int .i64 g0, .int .i64 g1, .slice e1 c6.length d7] 25 (0, 0)) (by repeat (with_reducible first | exact a6.out | refine oneB ?_ | refine ybl ?_ i1.out _)) hb); replace a8 := yaa (yac (g := b4) (o := .cells #[.int .i64 g8, .int .i64 h7, .slice d8 d0.length d4] 25 (0, 0)) (by (repeat refine oneB ?_); refine ybn (cs := #[.int .i64 g8, .int .i64 h7, .slice none 0 0]) ?_ 2 _ rfl; refine ybn (cs := #[.int .i64 g8, .int .i64 0, .slice none 0 0]) ?_ 1 _ rfl; refine ybn (cs := #[.int .i64 0, .int .i64 0, .slice none 0 0]) ?_ 0 _ rfl; exact upB a8.out) hb); replace HB := yaa (ybg (by repeat (with_reducible first | exact HB.out | apply yae | apply yab | apply yad | refine yal ?_ (Aside0.out ‹_›))) hb); (try clear hb)))
    go_meet
    case rel => exact ⟨_, ((z1 != C1)), (by first | rfl | (simp; done) | (simp [*]; done)), H', ⟨by first | omega | exact Nat.le_refl _⟩, ⟨by first | exact g5.out | exact upR g5.out⟩, ⟨by (with_reducible repeat (first | apply yam | apply yan | apply yak)); exact yao g4.out (fun _ hk => by grind)⟩, ⟨Kd.Q_of_R (by (with_reducible repeat (first | apply yaq | apply yar | apply yas)); exact yau j6.out (fun _ hk => by grind))⟩, ⟨Kd.Q_of_R (by (with_reducible repeat (first | apply yaq | apply yar | apply yas)); exact yau l9.out (fun _ hk => by grind))⟩, ⟨by exact upB a5.out⟩, ⟨by exact upB a6.out⟩, ⟨by exact upB a8.out⟩, ⟨by repeat (with_reducible first | exact HB.out | apply yae | apply yab | apply yad | refine yal ?_ (Aside0.out ‹_›))⟩⟩
   ·
    replace c25 := Bool.eq_false_iff.mpr c25
    subst c25
    rw [if_neg (show ¬ (false = true) by decide)] at H
    have H' := yaa H; clear H; have aD := k8.out; have aE := h9.out; have aF := i1.out; have aG := m1.out; obtain ⟨t3, t4, t5⟩ := cc3_ a6.out; obtain ⟨t6, t7, t8⟩ := cf3_ a6.out; have aH := m0.out; have aI := i0.out; obtain ⟨t9, u0, u1⟩ := cc3_ a8.out; obtain ⟨u2, u3, u4⟩ := cf3_ a8.out
    go_wp2_with (first | ((with_reducible refine gc_ 13 rfl ?_); refine gl_ (some 42) rfl Try.func13 #[.agg #[.int .i64 g0, .int .i64 g1, .slice e1 c6.length d7], .agg #[.int .i64 g8, .int .i64 h7, .slice d8 d0.length d4]] ?_; (with_reducible refine (laws_eaRas.calls k g0 g1 _ _ c6 g8 h7 _ _ d0 false _ ?side1 ?side2 ?side3 ?side4 A24.out).mono ?_); (case side1 => refine (yaz (e := 36) (base := w.heap.size) (ok := fun k_ => ((True ∧ some k_ ≠ (.slice d6 c5.length d3 : Value).ownBlock) ∧ some k_ ≠ (.slice d8 d0.length d4 : Value).ownBlock)) (n := c6.length) (c := d7) ?_).2.2; exact (by (with_reducible repeat (first | apply yaq | apply yar | apply yas)); exact (yau (yag (p := ⟨b4, 2, none⟩) (yag (p := ⟨b4, 1, none⟩) (yag (p := ⟨b4, 0, none⟩) (yay j6.out a8.out (by decide)) (fun _ hk => hk.2) (.int .i64 g8)) (fun _ hk => hk.2) (.int .i64 h7)) (fun _ hk => hk.2) (.slice d8 d0.length d4)) (fun _ h_ => h_.1)))); (case side2 => exact (yaz j6.out).2.1); (case side3 => refine (yaz (e := 36) (base := w.heap.size) (ok := fun k_ => ((True ∧ some k_ ≠ (.slice d6 c5.length d3 : Value).ownBlock) ∧ some k_ ≠ (.slice e1 c6.length d7 : Value).ownBlock)) (n := d0.length) (c := d4) ?_).2.2; exact (by (with_reducible repeat (first | apply yaq | apply yar | apply yas)); exact (yau (yag (p := ⟨b4, 2, none⟩) (yag (p := ⟨b4, 1, none⟩) (yag (p := ⟨b4, 0, none⟩) (yay l9.out a8.out (by decide)) (fun _ hk => hk.2) (.int .i64 g8)) (fun _ hk => hk.2) (.int .i64 h7)) (fun _ hk => hk.2) (.slice d8 d0.length d4)) (fun _ h_ => h_.1)))); (case side4 => exact (yaz l9.out).2.1); rintro e w37 ⟨rfl, hb⟩; refine ⟨_, rfl, ?_⟩; replace g4 := yaa (yaj (by (with_reducible repeat (first | apply yam | apply yan | apply yak)); exact (yao (yaf (p := ⟨b4, 2, none⟩) (yaf (p := ⟨b4, 1, none⟩) (yaf (p := ⟨b4, 0, none⟩) (yax g4.out a8.out (by decide)) (fun _ hk => hk.2) (.int .i64 g8)) (fun _ hk => hk.2) (.int .i64 h7)) (fun _ hk => hk.2) (.slice d8 d0.length d4)) (fun _ h_ => h_.1))) hb); replace g5 := yaa (yah (by (with_reducible repeat (first | apply yaq | apply yar | apply yas)); exact (yau (yag (p := ⟨b4, 2, none⟩) (yag (p := ⟨b4, 1, none⟩) (yag (p := ⟨b4, 0, none⟩) (yay g5.out a8.out (by decide)) (fun _ hk => hk.2) (.int .i64 g8)) (fun _ hk => hk.2) (.int .i64 h7)) (fun _ hk => hk.2) (.slice d8 d0.length d4)) (fun _ h_ => h_.1))) hb); replace j6 := yaa (yah (by (with_reducible repeat (first | apply yaq | apply yar | apply yas)); exact (yau (yag (p := ⟨b4, 2, none⟩) (yag (p := ⟨b4, 1, none⟩) (yag (p := ⟨b4, 0, none⟩) (yay j6.out a8.out (by decide)) (fun _ hk => hk.2) (.int .i64 g8)) (fun _ hk => hk.2) (.int .i64 h7)) (fun _ hk => hk.2) (.slice d8 d0.length d4)) (fun _ h_ => h_.1))) hb); replace l9 := yaa (yah (by (with_reducible repeat (first | apply yaq | apply yar | apply yas)); exact (yau (yag (p := ⟨b4, 2, none⟩) (yag (p := ⟨b4, 1, none⟩) (yag (p := ⟨b4, 0, none⟩) (yay l9.out a8.out (by decide)) (fun _ hk => hk.2) (.int .i64 g8)) (fun _ hk => hk.2) (.int .i64 h7)) (fun _ hk => hk.2) (.slice d8 d0.length d4)) (fun _ h_ => h_.1))) hb); replace a5 := yaa (yac (g := b9) (o := .cells #[.int .i64 e5, .int .i64 e6, .slice d6 c5.length d3] 25 (0, 0)) (by repeat (with_reducible first | exact a5.out | refine oneB ?_ | refine ybl ?_ i0.out _)) hb); replace a6 := yaa (yac (g := c7) (o := .cells #[.int .i64 g0, .int .i64 g1, .slice e1 c6.length d7] 25 (0, 0)) (by repeat (with_reducible first | exact a6.out | refine oneB ?_ | refine ybl ?_ i1.out _)) hb); replace a8 := yaa (yac (g := b4) (o := .cells #[.int .i64 g8, .int .i64 h7, .slice d8 d0.length d4] 25 (0, 0)) (by (repeat refine oneB ?_); refine ybn (cs := #[.int .i64 g8, .int .i64 h7, .slice none 0 0]) ?_ 2 _ rfl; refine ybn (cs := #[.int .i64 g8, .int .i64 0, .slice none 0 0]) ?_ 1 _ rfl; refine ybn (cs := #[.int .i64 0, .int .i64 0, .slice none 0 0]) ?_ 0 _ rfl; exact upB a8.out) hb); replace HB := yaa (ybg (by repeat (with_reducible first | exact HB.out | apply yae | apply yab | apply yad | refine yal ?_ (Aside0.out ‹_›))) hb); (try clear hb)))
    go_meet
    case rel => exact ⟨_, (true), (by first | rfl | (simp; done) | (simp [*]; done)), H', ⟨by first | omega | exact Nat.le_refl _⟩, ⟨by first | exact g5.out | exact upR g5.out⟩, ⟨by (with_reducible repeat (first | apply yam | apply yan | apply yak)); exact yao g4.out (fun _ hk => by grind)⟩, ⟨Kd.Q_of_R (by (with_reducible repeat (first | apply yaq | apply yar | apply yas)); exact yau j6.out (fun _ hk => by grind))⟩, ⟨Kd.Q_of_R (by (with_reducible repeat (first | apply yaq | apply yar | apply yas)); exact yau l9.out (fun _ hk => by grind))⟩, ⟨by exact upB a5.out⟩, ⟨by exact upB a6.out⟩, ⟨by exact upB a8.out⟩, ⟨by repeat (with_reducible first | exact HB.out | apply yae | apply yab | apply yad | refine yal ?_ (Aside0.out ‹_›))⟩⟩
  case rest =>
   clear HC6; (try clear c1); (try clear c2); (try clear B3); (try clear B4); (try clear p2); (try clear c3); (try clear c8); (try clear c13); (try clear c14); (try clear c20); (try clear c21); (try clear c25); (try clear c26); (try clear c27); (try clear c28); (try clear c29); (try clear c32); (try clear c33); (try clear c35); (try clear q2); (try clear q3); (try clear q4); (try clear q8); (try clear q9); (try clear r0); (try clear r4); (try clear r5); (try clear r6); (try clear s1); (try clear s2); (try clear s3); (try clear s7); (try clear s8); (try clear s9); (try clear t3); (try clear t4); (try clear t5); (try clear t9); (try clear u0); (try clear u1); (try clear x1); (try clear x2); (try clear x3); (try clear q5); (try clear q6); (try clear q7); (try clear r1); (try clear r2); (try clear r3); (try clear r7); (try clear r8); (try clear r9); (try clear s4); (try clear s5); (try clear s6); (try clear t0); (try clear t1); (try clear t2); (try clear t6); (try clear t7); (try clear t8); (try clear u2); (try clear u3); (try clear u4); (try clear x5); (try clear x7); (try clear x8); obtain ⟨kq, s0, rfl, HA, HJ5, a9, a1, a2, a4, a5, a6, a8, HB⟩ := hcut
   cases kq with
   | zero => exact absurd HA.out (by simp [laws_FnOpsDo.j0])
   | succ kj5 =>
    have H := HA.out; clear HA
    simp only [laws_FnOpsDo.j0] at H
    by_cases c38 : s0 = true
    ·
     subst c38
     rw [if_pos rfl] at H
     rw [hrt] at H
     exact absurd H (by simp)
    ·
     replace c38 := Bool.eq_false_iff.mpr c38
     subst c38
     rw [if_neg (show ¬ (false = true) by decide)] at H
     by_cases c39 : z1 = true
     ·
      subst c39
      rw [if_pos rfl] at H
      have H' := yaa H; clear H; have aJ := h9.out; have aK := k8.out; have aL := i0.out; have aM := m0.out; obtain ⟨z3, z4, z5⟩ := cc3_ a5.out; obtain ⟨z6, z7, z8⟩ := cf3_ a5.out
      go_wp2_with (first | ((with_reducible refine gd_ 9 rfl ?_); refine bx_ 9 rfl #[.int .i64 0, .int .i64 0, .slice none 0 0] 25 ?_; intro b5 hg w43 hbox hb; replace a9 := yaa (yah (upR a9.out) hb); replace a1 := yaa (yaj (upQ a1.out) hb); replace a2 := yaa (yaj (upQ a2.out) hb); replace a4 := yaa (yaj (upQ a4.out) hb); have a7 := yaa (hbox); have C5 := yaa ((by rw [hg]; exact (ybf (by repeat (with_reducible first | exact HB.out | apply yae | apply yab | apply yad | refine yal ?_ (Aside0.out ‹_›)))) : w.heap.size ≤ b5)); replace HB := yaa (ybg (by repeat (with_reducible first | exact HB.out | apply yae | apply yab | apply yad | refine yal ?_ (Aside0.out ‹_›))) hb); have aN := C5; have k9 := yaa ((by rw [hg]; exact Nat.ne_of_lt (ybi (upB a5.out)) : b9 ≠ b5)); replace a5 := yaa (yac (upB a5.out) hb); have o0 := yaa k9.out.symm; have l1 := yaa ((by rw [hg]; exact Nat.ne_of_lt (ybi (upB a6.out)) : c7 ≠ b5)); replace a6 := yaa (yac (upB a6.out) hb); have o1 := yaa l1.out.symm; have l2 := yaa ((by rw [hg]; exact Nat.ne_of_lt (ybi (upB a8.out)) : b4 ≠ b5)); replace a8 := yaa (yac (upB a8.out) hb); have o2 := yaa l2.out.symm; clear hb hbox hg; have aO := o0.out; have aP := k9.out; have aQ := o1.out; have aR := l1.out; have aS := o2.out; have aT := l2.out; obtain ⟨z9, A2, A6⟩ := cc3_ a7.out; obtain ⟨A7, A8⟩ := cf2_ a7.out; have A9 := blk_frozen a7.out 2))
      (try simp only [Act.put, List.setIfInBounds_toArray, List.set_cons_zero, List.set_cons_succ])
      go_loopg [10] kj5 (fun kq v10 w' => ∃ (b8 : Int) (d2 : Int) (d1 : Int) (b1 : List (S36)) (u127002 : Value), v10 = .int .i64 b8 ∧ yap (laws_FnOpsDo.l0 kq c9 b8 e5 e6 c5 g0 g1 c6 d2 d1 b1 = some r) ∧ yap (kq ≤ kj5) ∧ yap (Kd.R k27 27 w' w.heap.size (fun _ => True) (.slice n0 c9.length l3) c9) ∧ yap (Kd.Q k36 36 w' w.heap.size (fun k_ => some k_ ≠ ((.slice e1 c6.length d7) : Value).ownBlock ∧ some k_ ≠ ((.slice d8 d0.length d4) : Value).ownBlock) (.slice d6 c5.length d3) c5) ∧ yap (Kd.Q k36 36 w' w.heap.size (fun k_ => some k_ ≠ ((.slice d6 c5.length d3) : Value).ownBlock ∧ some k_ ≠ ((.slice d8 d0.length d4) : Value).ownBlock ∧ some k_ ≠ (u127002 : Value).ownBlock) (.slice e1 c6.length d7) c6) ∧ yap (Kd.Q k36 36 w' w.heap.size (fun k_ => some k_ ≠ ((.slice d6 c5.length d3) : Value).ownBlock ∧ some k_ ≠ ((.slice e1 c6.length d7) : Value).ownBlock ∧ some k_ ≠ (u127002 : Value).ownBlock) (.slice d8 d0.length d4) d0) ∧ yap (Kd.Q k36 36 w' w.heap.size (fun k_ => some k_ ≠ ((.slice e1 c6.length d7) : Value).ownBlock ∧ some k_ ≠ ((.slice d8 d0.length d4) : Value).ownBlock) u127002 b1) ∧ yap (w'.heap[b9]? = some (.cells #[.int .i64 e5, .int .i64 e6, (.slice d6 c5.length d3)] 25 (0, 0))) ∧ yap (w'.heap[c7]? = some (.cells #[.int .i64 g0, .int .i64 g1, (.slice e1 c6.length d7)] 25 (0, 0))) ∧ yap (w'.heap[b4]? = some (.cells #[.int .i64 g8, .int .i64 h7, (.slice d8 d0.length d4)] 25 (0, 0))) ∧ yap (w'.heap[b5]? = some (.cells #[.int .i64 d2, .int .i64 d1, u127002] 25 (0, 0))) ∧ yap (Below w.heap.size w w'))
      case atStart => exact ⟨(0), (e5), (e6), (c5), (.slice d6 c5.length d3), (by first | rfl | (simp; done) | (simp [*]; done)), H', ⟨Nat.le_refl _⟩, ⟨by (with_reducible repeat (first | apply yaq | apply yar | apply yas)); exact yau (yag (p := ⟨b5, 2, none⟩) (yag (p := ⟨b5, 1, none⟩) (yag (p := ⟨b5, 0, none⟩) (yay a9.out a7.out (by decide)) (fun _ hk => hk.2) (.int .i64 e5)) (fun _ hk => hk.2) (.int .i64 e6)) (fun _ hk => hk.2) (.slice d6 c5.length d3)) (fun _ hk => trivial)⟩, ⟨by (with_reducible repeat (first | apply yam | apply yan | apply yak)); exact yao (yaf (p := ⟨b5, 2, none⟩) (yaf (p := ⟨b5, 1, none⟩) (yaf (p := ⟨b5, 0, none⟩) (yax a1.out a7.out (by decide)) (fun _ hk => hk.2) (.int .i64 e5)) (fun _ hk => hk.2) (.int .i64 e6)) (fun _ hk => hk.2) (.slice d6 c5.length d3)) (fun _ hk => by grind)⟩, ⟨by (with_reducible repeat (first | apply yam | apply yan | apply yak)); exact yao (yaf (p := ⟨b5, 2, none⟩) (yaf (p := ⟨b5, 1, none⟩) (yaf (p := ⟨b5, 0, none⟩) (yax a2.out a7.out (by decide)) (fun _ hk => hk.2) (.int .i64 e5)) (fun _ hk => hk.2) (.int .i64 e6)) (fun _ hk => hk.2) (.slice d6 c5.length d3)) (fun _ hk => by grind)⟩, ⟨by (with_reducible repeat (first | apply yam | apply yan | apply yak)); exact yao (yaf (p := ⟨b5, 2, none⟩) (yaf (p := ⟨b5, 1, none⟩) (yaf (p := ⟨b5, 0, none⟩) (yax a4.out a7.out (by decide)) (fun _ hk => hk.2) (.int .i64 e5)) (fun _ hk => hk.2) (.int .i64 e6)) (fun _ hk => hk.2) (.slice d6 c5.length d3)) (fun _ hk => by grind)⟩, ⟨by (with_reducible repeat (first | apply yam | apply yan | apply yak)); exact yao (yaf (p := ⟨b5, 2, none⟩) (yaf (p := ⟨b5, 1, none⟩) (yaf (p := ⟨b5, 0, none⟩) (yax a1.out a7.out (by decide)) (fun _ hk => hk.2) (.int .i64 e5)) (fun _ hk => hk.2) (.int .i64 e6)) (fun _ hk => hk.2) (.slice d6 c5.length d3)) (fun _ hk => by grind)⟩, ⟨by repeat (with_reducible first | exact a5.out | refine oneB ?_ | refine ybl ?_ k9.out _)⟩, ⟨by repeat (with_reducible first | exact a6.out | refine oneB ?_ | refine ybl ?_ l1.out _)⟩, ⟨by repeat (with_reducible first | exact a8.out | refine oneB ?_ | refine ybl ?_ l2.out _)⟩, ⟨by (repeat refine oneB ?_); refine ybn (cs := #[.int .i64 e5, .int .i64 e6, .slice none 0 0]) ?_ 2 _ rfl; refine ybn (cs := #[.int .i64 e5, .int .i64 0, .slice none 0 0]) ?_ 1 _ rfl; refine ybn (cs := #[.int .i64 0, .int .i64 0, .slice none 0 0]) ?_ 0 _ rfl; exact upB a7.out⟩, ⟨by repeat (with_reducible first | exact HB.out | apply yae | apply yab | apply yad | refine yal ?_ (Aside0.out ‹_›))⟩⟩
      case round =>
       clear H'; (try clear c1); (try clear c2); (try clear B3); (try clear B4); (try clear p2); (try clear c3); (try clear c4); (try clear c8); (try clear c13); (try clear c14); (try clear c20); (try clear c21); (try clear c25); (try clear c26); (try clear c27); (try clear c28); (try clear c29); (try clear c32); (try clear c33); (try clear c35); (try clear c38); (try clear c39); (try clear c40); (try clear c41); (try clear c44); (try clear c45); (try clear c46); (try clear q2); (try clear q3); (try clear q4); (try clear q8); (try clear q9); (try clear r0); (try clear r4); (try clear r5); (try clear r6); (try clear s1); (try clear s2); (try clear s3); (try clear s7); (try clear s8); (try clear s9); (try clear t3); (try clear t4); (try clear t5); (try clear t9); (try clear u0); (try clear u1); (try clear z3); (try clear z4); (try clear z5); (try clear z9); (try clear A2); (try clear A6); (try clear x1); (try clear x2); (try clear x3); (try clear q5); (try clear q6); (try clear q7); (try clear r1); (try clear r2); (try clear r3); (try clear r7); (try clear r8); (try clear r9); (try clear s4); (try clear s5); (try clear s6); (try clear t0); (try clear t1); (try clear t2); (try clear t6); (try clear t7); (try clear t8); (try clear u2); (try clear u3); (try clear u4); (try clear z6); (try clear z7); (try clear z8); (try clear A7); (try clear A8); (try clear A9); (try clear x5); (try clear x7); (try clear x8); (try clear p2); obtain ⟨b8, d2, d1, b1, u127002, rfl, HA, HK2, a9, a1, a2, a4, a3, a5, a6, a8, a7, HB⟩ := hrel
       cases gk with
       | zero => exact absurd HA.out (by simp [laws_FnOpsDo.l0])
       | succ k2 =>
        have H := HA.out; clear HA
        simp only [laws_FnOpsDo.l0] at H
        by_cases c48 : b8 < (c9.length : Int)
        ·
         rw [if_pos c48] at H
         have C6 : decide (b8 < (c9.length : Int)) = true := decide_eq_true c48; clear c48
         by_cases c49 : 0 ≤ b8
         ·
          rw [if_pos c49] at H
          replace c49 := decide_eq_true c49; obtain ⟨⟨m6, n1, n5, T2⟩, A50, H⟩ := bindA H; (try dsimp only at H)
          by_cases c51 : T2 = true
          ·
           subst c51
           rw [if_pos rfl] at H
           have H' := yaa H; clear H; obtain ⟨m7, m8, T3, _⟩ := Kd.Q_slice a3.out; subst T3
           try go_wp2
           replace a9 := yaa (yas a9.out); replace a1 := yaa (yak a1.out); replace a2 := yaa (yak a2.out); replace a4 := yaa (yak a4.out); replace a3 := yaa (yak a3.out); replace a5 := yaa (blk_drew a5.out); replace a6 := yaa (blk_drew a6.out); replace a8 := yaa (blk_drew a8.out); replace a7 := yaa (blk_drew a7.out); replace HB := yaa (yad HB.out); have p127 : 0 ≤ (b8 : Int) := of_decide_eq_true (by assumption); have q127 : b8 < (c9.length : Int) := of_decide_eq_true (by assumption); obtain ⟨ad127, T4, u5, u6, u7, u9, v0⟩ := at_T27 (yaz a9.out).2.2 b8 p127 q127
           cases T4
           replace p127 := eq_true p127; replace q127 := eq_true q127
           refine start_ (n := 12) (S := fun w' => w'.cell? ⟨b5, 0, none⟩ = some (.int .i64 d2) ∧ w'.cell? ⟨b5, 1, none⟩ = some (.int .i64 d1) ∧ w'.cell? ⟨b5, 2, none⟩ = some (.slice m7 b1.length m8) ∧ w'.cell? (ad127.add ((b8).toNat * 5)) = some (.int .i64 ((ybo c9 b8).f0)) ∧ w'.cell? ⟨(ad127.add ((b8).toNat * 5)).block, (ad127.add ((b8).toNat * 5)).off + 1, none⟩ = some (.int .i64 ((ybo c9 b8).f1)) ∧ w'.cell? ⟨(ad127.add ((b8).toNat * 5)).block, (ad127.add ((b8).toNat * 5)).off + 2, none⟩ = some (.int .i64 ((ybo c9 b8).f2)) ∧ w'.cell? ⟨(ad127.add ((b8).toNat * 5)).block, (ad127.add ((b8).toNat * 5)).off + 3, none⟩ = some (.int .i64 ((ybo c9 b8).f3)) ∧ w'.cell? ⟨(ad127.add ((b8).toNat * 5)).block, (ad127.add ((b8).toNat * 5)).off + 4, none⟩ = some (.int .i64 ((ybo c9 b8).f4))) (ds := []) q8_0 (by kernel_rfl) rfl rfl ⟨(yat a7.out 0).trans rfl, (yat a7.out 1).trans rfl, (yat a7.out 2).trans rfl, u5, u6, u7, u9, v0⟩ (fun hHeld => ?_); refine with_tabW laws_FnOpsDo.tab14 laws_FnOpsDo.bits14 (fun HT_ HW_ => ?_)
           generalize wr.drew = w53 at a9 a1 a2 a4 a3 a5 a6 a8 a7 HB u5 u6 u7 u9 v0 hHeld ⊢
           refine pz_ 1 67 q8_1 HT_ (by kernel_rfl) ?_
           refine pz_ 2 68 q8_2 HT_ (by kernel_rfl) ?_
           refine pz_ 3 69 q8_3 HT_ (by kernel_rfl) ?_
           refine tz_ 0 66 q8_4 HT_ HW_ (by kernel_rfl) hHeld ?_
           refine tz_ 4 70 q8_5 HT_ HW_ (by kernel_rfl) hHeld ?_
           refine join_ (σ := Value × Nat) 2 q8_6 (fun s_ => [(71, .tuple #[.agg #[.int .i64 m6, .int .i64 n1, s_.1], .bool true]), (11, .pointer (some ⟨s_.2, 0, none⟩)), (65, .tuple #[.agg #[.int .i64 m6, .int .i64 n1, s_.1], .bool true]), (72, .agg #[.int .i64 m6, .int .i64 n1, s_.1]), (73, .bool true)]) (fun s_ w' => (w'.cell? ⟨b5, 0, none⟩ = some (.int .i64 d2) ∧ w'.cell? ⟨b5, 1, none⟩ = some (.int .i64 d1) ∧ w'.cell? ⟨b5, 2, none⟩ = some (.slice m7 b1.length m8) ∧ w'.cell? (ad127.add ((b8).toNat * 5)) = some (.int .i64 ((ybo c9 b8).f0)) ∧ w'.cell? ⟨(ad127.add ((b8).toNat * 5)).block, (ad127.add ((b8).toNat * 5)).off + 1, none⟩ = some (.int .i64 ((ybo c9 b8).f1)) ∧ w'.cell? ⟨(ad127.add ((b8).toNat * 5)).block, (ad127.add ((b8).toNat * 5)).off + 2, none⟩ = some (.int .i64 ((ybo c9 b8).f2)) ∧ w'.cell? ⟨(ad127.add ((b8).toNat * 5)).block, (ad127.add ((b8).toNat * 5)).off + 3, none⟩ = some (.int .i64 ((ybo c9 b8).f3)) ∧ w'.cell? ⟨(ad127.add ((b8).toNat * 5)).block, (ad127.add ((b8).toNat * 5)).off + 4, none⟩ = some (.int .i64 ((ybo c9 b8).f4))) ∧ (Kd.R k36 36 w' w.heap.size (fun k_ => some k_ ≠ (.slice d6 c5.length d3 : Value).ownBlock ∧ some k_ ≠ (.slice e1 c6.length d7 : Value).ownBlock ∧ some k_ ≠ (.slice d8 d0.length d4 : Value).ownBlock ∧ some k_ ≠ (.slice m7 b1.length m8 : Value).ownBlock) s_.1 n5) ∧ (Kd.Q k36 36 w' w.heap.size (fun k_ => some k_ ≠ (s_.1 : Value).ownBlock ∧ some k_ ≠ (.slice e1 c6.length d7 : Value).ownBlock ∧ some k_ ≠ (.slice d8 d0.length d4 : Value).ownBlock) (.slice d6 c5.length d3) c5) ∧ (Kd.Q k36 36 w' w.heap.size (fun k_ => some k_ ≠ (s_.1 : Value).ownBlock ∧ some k_ ≠ (.slice d6 c5.length d3 : Value).ownBlock ∧ some k_ ≠ (.slice d8 d0.length d4 : Value).ownBlock ∧ some k_ ≠ (.slice m7 b1.length m8 : Value).ownBlock) (.slice e1 c6.length d7) c6) ∧ (Kd.Q k36 36 w' w.heap.size (fun k_ => some k_ ≠ (s_.1 : Value).ownBlock ∧ some k_ ≠ (.slice d6 c5.length d3 : Value).ownBlock ∧ some k_ ≠ (.slice e1 c6.length d7 : Value).ownBlock ∧ some k_ ≠ (.slice m7 b1.length m8 : Value).ownBlock) (.slice d8 d0.length d4) d0) ∧ (Kd.Q k36 36 w' w.heap.size (fun k_ => some k_ ≠ (s_.1 : Value).ownBlock ∧ some k_ ≠ (.slice e1 c6.length d7 : Value).ownBlock ∧ some k_ ≠ (.slice d8 d0.length d4 : Value).ownBlock) (.slice m7 b1.length m8) b1) ∧ (Kd.R k27 27 w' w.heap.size (fun _ => True) (.slice (some ad127) c9.length l3) c9) ∧ (w'.heap[b9]? = some (.cells #[.int .i64 e5, .int .i64 e6, .slice d6 c5.length d3] 25 (0, 0))) ∧ (w'.heap[c7]? = some (.cells #[.int .i64 g0, .int .i64 g1, .slice e1 c6.length d7] 25 (0, 0))) ∧ (w'.heap[b4]? = some (.cells #[.int .i64 g8, .int .i64 h7, .slice d8 d0.length d4] 25 (0, 0))) ∧ (w'.heap[b5]? = some (.cells #[.int .i64 d2, .int .i64 d1, .slice m7 b1.length m8] 25 (0, 0))) ∧ (w'.heap[s_.2]? = some (.cells #[.int .i64 0, .int .i64 0, .slice none 0 0] 25 (0, 0))) ∧ (w.heap.size ≤ s_.2) ∧ (w.heap.size ≤ s_.2) ∧ (b9 ≠ s_.2) ∧ (s_.2 ≠ b9) ∧ (c7 ≠ s_.2) ∧ (s_.2 ≠ c7) ∧ (b4 ≠ s_.2) ∧ (s_.2 ≠ b4) ∧ (b5 ≠ s_.2) ∧ (s_.2 ≠ b5) ∧ (Below w.heap.size w w')) ?_ ?_
           rotate_left
           ·
            intro hCont
            refine two_ (i := 5) (j := 9) (Ni := some 71) (Nj := some 11) q8_7 q8_8 rfl rfl rfl rfl (two_of HT_.out (by kernel_rfl)) (by decide) (by decide) (fun K hK => ?_) (fun K hK => ?_)
            ·
             skip
             refine goes_ Try.func11 (by kernel_rfl) rfl #[.agg #[.int .i64 d2, .int .i64 d1, .slice m7 b1.length m8], .agg #[.int .i64 ((ybo c9 b8).f0), .int .i64 ((ybo c9 b8).f1), .int .i64 ((ybo c9 b8).f2), .int .i64 ((ybo c9 b8).f3), .int .i64 ((ybo c9 b8).f4)]] (by first | rfl | (simp [Region.wanted, yielded, *]; done)) rfl rfl (by (try simp only [List.map_toArray, List.map_cons, List.map_nil]); first | done | rfl | (simp only [List.length_drop, List.length_take]; rfl)) ?_
             with_reducible refine (impl_OpDo.calls d2 d1 _ _ b1 ((ybo c9 b8).f0) ((ybo c9 b8).f1) ((ybo c9 b8).f2) ((ybo c9 b8).f3) ((ybo c9 b8).f4) m6 n1 n5 true _ ?side1 ?side2 A50.out).mono ?_
             (case side1 => repeat (first | exact (ybh a3.out).2.2 | (with_reducible refine ybc ?_ _) | (with_reducible refine ybd ?_ _) | (with_reducible refine ybj ?_)))
             (case side2 => exact (ybh a3.out).2.1)
             rintro e w54 ⟨p5, rfl, ho0, hb⟩; have HS3_ := (hb.cell (World.block_lt_of_cell? _ _ (hHeld.2.2.2.1))).trans (hHeld.2.2.2.1); have HS4_ := (hb.cell (World.block_lt_of_cell? _ _ (hHeld.2.2.2.2.1))).trans (hHeld.2.2.2.2.1); have HS5_ := (hb.cell (World.block_lt_of_cell? _ _ (hHeld.2.2.2.2.2.1))).trans (hHeld.2.2.2.2.2.1); have HS6_ := (hb.cell (World.block_lt_of_cell? _ _ (hHeld.2.2.2.2.2.2.1))).trans (hHeld.2.2.2.2.2.2.1); have HS7_ := (hb.cell (World.block_lt_of_cell? _ _ (hHeld.2.2.2.2.2.2.2))).trans (hHeld.2.2.2.2.2.2.2); refine ⟨_, rfl, ?_⟩; have n0_ := yaa (yah (upR a9.out) hb); have n1_ := yaa (yav (upQ a1.out) (ybb ho0) hb); have n2_ := yaa (yav (upQ a2.out) (ybb ho0) hb); have n3_ := yaa (yav (upQ a4.out) (ybb ho0) hb); have n4_ := yaa (yav (upQ a3.out) (ybb ho0) hb)
             have n5_ := yaa (Kd.R_lower (yba (yba (yba (yba ho0 (ybm (upQ a1.out))) (ybm (upQ a2.out))) (ybm (upQ a4.out))) (ybm (upQ a3.out))) (ybf (by repeat (with_reducible first | exact HB.out | apply yae | apply yab | apply yad | refine yal ?_ (Aside0.out ‹_›)))))
             have n6_ := yaa (yac (upB a5.out) hb); have n7_ := yaa (yac (upB a6.out) hb); have n8_ := yaa (yac (upB a8.out) hb); have n9_ := yaa (yac (upB a7.out) hb)
             have e8 := yaa (ybg (by repeat (with_reducible first | exact HB.out | apply yae | apply yab | apply yad | refine yal ?_ (Aside0.out ‹_›))) hb)
             clear a9; clear a1; clear a2; clear a4; clear a3; clear a5; clear a6; clear a8; clear a7; clear HB; have a9 := n0_; have a1 := n1_; have a2 := n2_; have a4 := n3_; have a3 := n4_; have n9 := n5_; have a5 := n6_; have a6 := n7_; have a8 := n8_; have a7 := n9_; have HB := e8; clear n0_ n1_ n2_ n3_ n4_ n5_ n6_ n7_ n8_ n9_ e8; (try clear hb); (try clear hb2); (try clear hk); (try clear hi); (try clear ho0)
             refine hK.out _ _ ⟨(yat a7.out 0).trans rfl, (yat a7.out 1).trans rfl, (yat a7.out 2).trans rfl, HS3_, HS4_, HS5_, HS6_, HS7_⟩ (fun hHeld => ?_)
             clear hK K
             refine norm_ (a' := ?_) ?_ ?_
             rotate_left
             ·
              show Act.put _ (some 71) _ = _
              simp only [Act.put, List.setIfInBounds_toArray, List.set_cons_zero, List.set_cons_succ, i64_w, i32_w]
              rfl
             refine pz_ 6 65 q8_9 HT_ (by kernel_rfl) ?_
             refine pz_ 7 72 q8_10 HT_ (by kernel_rfl) ?_
             refine pz_ 8 73 q8_11 HT_ (by kernel_rfl) ?_
             refine one_ (i := 9) (N := some 11) q8_6 rfl rfl (one_of HT_.out (by kernel_rfl)) (by decide) (fun K hK => ?_)
             refine box_step ?hg (N := 11) ?hd (cs := #[.int .i64 0, .int .i64 0, .slice none 0 0]) (t := 25) ?hr ?_; (case hd => rfl); (case hg => first | rfl | (simp [Region.wanted, yielded, *]; done)); (case hr => first | (go_simp; done) | (go_simp; rfl))
             intro b6 hg w55 hbox hb; have HS3_ := (hb.cell (World.block_lt_of_cell? _ _ (hHeld.2.2.2.1))).trans (hHeld.2.2.2.1); have HS4_ := (hb.cell (World.block_lt_of_cell? _ _ (hHeld.2.2.2.2.1))).trans (hHeld.2.2.2.2.1); have HS5_ := (hb.cell (World.block_lt_of_cell? _ _ (hHeld.2.2.2.2.2.1))).trans (hHeld.2.2.2.2.2.1); have HS6_ := (hb.cell (World.block_lt_of_cell? _ _ (hHeld.2.2.2.2.2.2.1))).trans (hHeld.2.2.2.2.2.2.1); have HS7_ := (hb.cell (World.block_lt_of_cell? _ _ (hHeld.2.2.2.2.2.2.2))).trans (hHeld.2.2.2.2.2.2.2); have n0_ := yaa (yah (upR a9.out) hb); have n1_ := yaa (yaj (upQ a1.out) hb); have n2_ := yaa (yaj (upQ a2.out) hb); have n3_ := yaa (yaj (upQ a4.out) hb); have n4_ := yaa (yaj (upQ a3.out) hb); have n5_ := yaa (yah (upR n9.out) hb); have n6_ := yaa (yac (upB a5.out) hb); have n7_ := yaa (yac (upB a6.out) hb); have n8_ := yaa (yac (upB a8.out) hb); have n9_ := yaa (yac (upB a7.out) hb)
             have e8 := yaa (ybg (by repeat (with_reducible first | exact HB.out | apply yae | apply yab | apply yad | refine yal ?_ (Aside0.out ‹_›))) hb)
             have e9 := yaa (hbox)
             have g6 := yaa ((by rw [hg]; exact (ybf (by repeat (with_reducible first | exact HB.out | apply yae | apply yab | apply yad | refine yal ?_ (Aside0.out ‹_›)))) : w.heap.size ≤ b6))
             have h8 := yaa ((by rw [hg]; exact (ybf (by repeat (with_reducible first | exact HB.out | apply yae | apply yab | apply yad | refine yal ?_ (Aside0.out ‹_›)))) : w.heap.size ≤ b6))
             have j5 := yaa ((by rw [hg]; exact Nat.ne_of_lt (ybi (upB a5.out)) : b9 ≠ b6)); have j8 := yaa ((by rw [hg]; exact Nat.ne_of_gt (ybi (upB a5.out)) : b6 ≠ b9)); have j9 := yaa ((by rw [hg]; exact Nat.ne_of_lt (ybi (upB a6.out)) : c7 ≠ b6)); have k0 := yaa ((by rw [hg]; exact Nat.ne_of_gt (ybi (upB a6.out)) : b6 ≠ c7)); have k1 := yaa ((by rw [hg]; exact Nat.ne_of_lt (ybi (upB a8.out)) : b4 ≠ b6)); have k3 := yaa ((by rw [hg]; exact Nat.ne_of_gt (ybi (upB a8.out)) : b6 ≠ b4)); have k4 := yaa ((by rw [hg]; exact Nat.ne_of_lt (ybi (upB a7.out)) : b5 ≠ b6)); have l4 := yaa ((by rw [hg]; exact Nat.ne_of_gt (ybi (upB a7.out)) : b6 ≠ b5)); clear a9; clear a1; clear a2; clear a4; clear a3; clear n9; clear a5; clear a6; clear a8; clear a7; clear HB; have a9 := n0_; have a1 := n1_; have a2 := n2_; have a4 := n3_; have a3 := n4_; have n9 := n5_; have a5 := n6_; have a6 := n7_; have a8 := n8_; have a7 := n9_; have HB := e8; have b2 := e9; have v1 := g6; have v2 := h8; have g9 := j5; have i2 := j8; have h0 := j9; have i3 := k0; have h2 := k1; have i4 := k3; have d9 := k4; have i5 := l4; clear n0_ n1_ n2_ n3_ n4_ n5_ n6_ n7_ n8_ n9_ e8 e9 g6 h8 j5 j8 j9 k0 k1 k3 k4 l4; clear hb hbox hg
             refine hK.out _ _ ⟨(yat a7.out 0).trans rfl, (yat a7.out 1).trans rfl, (yat a7.out 2).trans rfl, HS3_, HS4_, HS5_, HS6_, HS7_⟩ (fun hHeld => ?_)
             clear hK K
             refine norm_ (a' := ?_) ?_ ?_
             rotate_left
             ·
              show Act.put _ (some 11) _ = _
              simp only [Act.put, List.setIfInBounds_toArray, List.set_cons_zero, List.set_cons_succ, i64_w, i32_w]
              rfl
             exact norm_ (by simp only [putAll, Act.put, List.setIfInBounds_toArray, List.set_cons_zero, List.set_cons_succ]) (hCont (p5, b6) _ ⟨hHeld, (by (with_reducible repeat (first | apply yaq | apply yar | apply yas)); exact yau n9.out (fun _ hk => by grind)), (by (with_reducible repeat (first | apply yam | apply yan | apply yak)); exact yao a1.out (fun _ hk => by grind)), (by (with_reducible repeat (first | apply yam | apply yan | apply yak)); exact yao a2.out (fun _ hk => by grind)), (by (with_reducible repeat (first | apply yam | apply yan | apply yak)); exact yao a4.out (fun _ hk => by grind)), (by (with_reducible repeat (first | apply yam | apply yan | apply yak)); exact yao a3.out (fun _ hk => by grind)), (upR a9.out), (upB a5.out), (upB a6.out), (upB a8.out), (upB a7.out), (upB b2.out), v1.out, v2.out, g9.out, i2.out, h0.out, i3.out, h2.out, i4.out, d9.out, i5.out, (by repeat (with_reducible first | exact HB.out | apply yae | apply yab | apply yad | refine yal ?_ (Aside0.out ‹_›)))⟩)
            ·
             skip
             refine box_step ?hg (N := 11) ?hd (cs := #[.int .i64 0, .int .i64 0, .slice none 0 0]) (t := 25) ?hr ?_; (case hd => rfl); (case hg => first | rfl | (simp [Region.wanted, yielded, *]; done)); (case hr => first | (go_simp; done) | (go_simp; rfl))
             intro b6 hg w54 hbox hb; have HS3_ := (hb.cell (World.block_lt_of_cell? _ _ (hHeld.2.2.2.1))).trans (hHeld.2.2.2.1); have HS4_ := (hb.cell (World.block_lt_of_cell? _ _ (hHeld.2.2.2.2.1))).trans (hHeld.2.2.2.2.1); have HS5_ := (hb.cell (World.block_lt_of_cell? _ _ (hHeld.2.2.2.2.2.1))).trans (hHeld.2.2.2.2.2.1); have HS6_ := (hb.cell (World.block_lt_of_cell? _ _ (hHeld.2.2.2.2.2.2.1))).trans (hHeld.2.2.2.2.2.2.1); have HS7_ := (hb.cell (World.block_lt_of_cell? _ _ (hHeld.2.2.2.2.2.2.2))).trans (hHeld.2.2.2.2.2.2.2); have n0_ := yaa (yah (upR a9.out) hb); have n1_ := yaa (yaj (upQ a1.out) hb); have n2_ := yaa (yaj (upQ a2.out) hb); have n3_ := yaa (yaj (upQ a4.out) hb); have n4_ := yaa (yaj (upQ a3.out) hb); have n5_ := yaa (yac (upB a5.out) hb); have n6_ := yaa (yac (upB a6.out) hb); have n7_ := yaa (yac (upB a8.out) hb); have n8_ := yaa (yac (upB a7.out) hb)
             have n9_ := yaa (ybg (by repeat (with_reducible first | exact HB.out | apply yae | apply yab | apply yad | refine yal ?_ (Aside0.out ‹_›))) hb)
             have e8 := yaa (hbox)
             have e9 := yaa ((by rw [hg]; exact (ybf (by repeat (with_reducible first | exact HB.out | apply yae | apply yab | apply yad | refine yal ?_ (Aside0.out ‹_›)))) : w.heap.size ≤ b6))
             have g6 := yaa ((by rw [hg]; exact (ybf (by repeat (with_reducible first | exact HB.out | apply yae | apply yab | apply yad | refine yal ?_ (Aside0.out ‹_›)))) : w.heap.size ≤ b6))
             have h8 := yaa ((by rw [hg]; exact Nat.ne_of_lt (ybi (upB a5.out)) : b9 ≠ b6)); have j5 := yaa ((by rw [hg]; exact Nat.ne_of_gt (ybi (upB a5.out)) : b6 ≠ b9)); have j8 := yaa ((by rw [hg]; exact Nat.ne_of_lt (ybi (upB a6.out)) : c7 ≠ b6)); have j9 := yaa ((by rw [hg]; exact Nat.ne_of_gt (ybi (upB a6.out)) : b6 ≠ c7)); have k0 := yaa ((by rw [hg]; exact Nat.ne_of_lt (ybi (upB a8.out)) : b4 ≠ b6)); have k1 := yaa ((by rw [hg]; exact Nat.ne_of_gt (ybi (upB a8.out)) : b6 ≠ b4)); have k3 := yaa ((by rw [hg]; exact Nat.ne_of_lt (ybi (upB a7.out)) : b5 ≠ b6)); have k4 := yaa ((by rw [hg]; exact Nat.ne_of_gt (ybi (upB a7.out)) : b6 ≠ b5)); clear a9; clear a1; clear a2; clear a4; clear a3; clear a5; clear a6; clear a8; clear a7; clear HB; have a9 := n0_; have a1 := n1_; have a2 := n2_; have a4 := n3_; have a3 := n4_; have a5 := n5_; have a6 := n6_; have a8 := n7_; have a7 := n8_; have HB := n9_; have b2 := e8; have v1 := e9; have v2 := g6; have g9 := h8; have i2 := j5; have h0 := j8; have i3 := j9; have h2 := k0; have i4 := k1; have d9 := k3; have i5 := k4; clear n0_ n1_ n2_ n3_ n4_ n5_ n6_ n7_ n8_ n9_ e8 e9 g6 h8 j5 j8 j9 k0 k1 k3 k4; clear hb hbox hg
             refine hK.out _ _ ⟨(yat a7.out 0).trans rfl, (yat a7.out 1).trans rfl, (yat a7.out 2).trans rfl, HS3_, HS4_, HS5_, HS6_, HS7_⟩ (fun hHeld => ?_)
             clear hK K
             refine norm_ (a' := ?_) ?_ ?_
             rotate_left
             ·
              show Act.put _ (some 11) _ = _
              simp only [Act.put, List.setIfInBounds_toArray, List.set_cons_zero, List.set_cons_succ, i64_w, i32_w]
              rfl
             refine one_ (i := 5) (N := some 71) q8_12 rfl rfl (one_of HT_.out (by kernel_rfl)) (by decide) (fun K hK => ?_)
             refine goes_ Try.func11 (by kernel_rfl) rfl #[.agg #[.int .i64 d2, .int .i64 d1, .slice m7 b1.length m8], .agg #[.int .i64 ((ybo c9 b8).f0), .int .i64 ((ybo c9 b8).f1), .int .i64 ((ybo c9 b8).f2), .int .i64 ((ybo c9 b8).f3), .int .i64 ((ybo c9 b8).f4)]] (by first | rfl | (simp [Region.wanted, yielded, *]; done)) rfl rfl (by (try simp only [List.map_toArray, List.map_cons, List.map_nil]); first | done | rfl | (simp only [List.length_drop, List.length_take]; rfl)) ?_
             with_reducible refine (impl_OpDo.calls d2 d1 _ _ b1 ((ybo c9 b8).f0) ((ybo c9 b8).f1) ((ybo c9 b8).f2) ((ybo c9 b8).f3) ((ybo c9 b8).f4) m6 n1 n5 true _ ?side1 ?side2 A50.out).mono ?_
             (case side1 => repeat (first | exact (ybh a3.out).2.2 | (with_reducible refine ybc ?_ _) | (with_reducible refine ybd ?_ _) | (with_reducible refine ybj ?_)))
             (case side2 => exact (ybh a3.out).2.1)
             rintro e w55 ⟨p5, rfl, ho0, hb⟩; have HS3_ := (hb.cell (World.block_lt_of_cell? _ _ (hHeld.2.2.2.1))).trans (hHeld.2.2.2.1); have HS4_ := (hb.cell (World.block_lt_of_cell? _ _ (hHeld.2.2.2.2.1))).trans (hHeld.2.2.2.2.1); have HS5_ := (hb.cell (World.block_lt_of_cell? _ _ (hHeld.2.2.2.2.2.1))).trans (hHeld.2.2.2.2.2.1); have HS6_ := (hb.cell (World.block_lt_of_cell? _ _ (hHeld.2.2.2.2.2.2.1))).trans (hHeld.2.2.2.2.2.2.1); have HS7_ := (hb.cell (World.block_lt_of_cell? _ _ (hHeld.2.2.2.2.2.2.2))).trans (hHeld.2.2.2.2.2.2.2); refine ⟨_, rfl, ?_⟩; have n0_ := yaa (yah (upR a9.out) hb); have n1_ := yaa (yav (upQ a1.out) (ybb ho0) hb); have n2_ := yaa (yav (upQ a2.out) (ybb ho0) hb); have n3_ := yaa (yav (upQ a4.out) (ybb ho0) hb); have n4_ := yaa (yav (upQ a3.out) (ybb ho0) hb)
             have n5_ := yaa (Kd.R_lower (yba (yba (yba (yba ho0 (ybm (upQ a1.out))) (ybm (upQ a2.out))) (ybm (upQ a4.out))) (ybm (upQ a3.out))) (ybf (by repeat (with_reducible first | exact HB.out | apply yae | apply yab | apply yad | refine yal ?_ (Aside0.out ‹_›)))))
             have n6_ := yaa (yac (upB a5.out) hb); have n7_ := yaa (yac (upB a6.out) hb); have n8_ := yaa (yac (upB a8.out) hb); have n9_ := yaa (yac (upB a7.out) hb); have e8 := yaa (yac (upB b2.out) hb)
             have e9 := yaa (ybg (by repeat (with_reducible first | exact HB.out | apply yae | apply yab | apply yad | refine yal ?_ (Aside0.out ‹_›))) hb)
             clear a9; clear a1; clear a2; clear a4; clear a3; clear a5; clear a6; clear a8; clear a7; clear b2; clear HB; have a9 := n0_; have a1 := n1_; have a2 := n2_; have a4 := n3_; have a3 := n4_; have n9 := n5_; have a5 := n6_; have a6 := n7_; have a8 := n8_; have a7 := n9_; have b2 := e8; have HB := e9; clear n0_ n1_ n2_ n3_ n4_ n5_ n6_ n7_ n8_ n9_ e8 e9; (try clear hb); (try clear hb2); (try clear hk); (try clear hi); (try clear ho0)
             refine hK.out _ _ ⟨(yat a7.out 0).trans rfl, (yat a7.out 1).trans rfl, (yat a7.out 2).trans rfl, HS3_, HS4_, HS5_, HS6_, HS7_⟩ (fun hHeld => ?_)
             clear hK K
             refine norm_ (a' := ?_) ?_ ?_
             rotate_left
             ·
              show Act.put _ (some 71) _ = _
              simp only [Act.put, List.setIfInBounds_toArray, List.set_cons_zero, List.set_cons_succ, i64_w, i32_w]
              rfl
             refine pz_ 6 65 q8_13 HT_ (by kernel_rfl) ?_
             refine pz_ 7 72 q8_14 HT_ (by kernel_rfl) ?_
             refine pz_ 8 73 q8_6 HT_ (by kernel_rfl) ?_
             exact norm_ (by simp only [putAll, Act.put, List.setIfInBounds_toArray, List.set_cons_zero, List.set_cons_succ]) (hCont (p5, b6) _ ⟨hHeld, (by (with_reducible repeat (first | apply yaq | apply yar | apply yas)); exact yau n9.out (fun _ hk => by grind)), (by (with_reducible repeat (first | apply yam | apply yan | apply yak)); exact yao a1.out (fun _ hk => by grind)), (by (with_reducible repeat (first | apply yam | apply yan | apply yak)); exact yao a2.out (fun _ hk => by grind)), (by (with_reducible repeat (first | apply yam | apply yan | apply yak)); exact yao a4.out (fun _ hk => by grind)), (by (with_reducible repeat (first | apply yam | apply yan | apply yak)); exact yao a3.out (fun _ hk => by grind)), (upR a9.out), (upB a5.out), (upB a6.out), (upB a8.out), (upB a7.out), (upB b2.out), v1.out, v2.out, g9.out, i2.out, h0.out, i3.out, h2.out, i4.out, d9.out, i5.out, (by repeat (with_reducible first | exact HB.out | apply yae | apply yab | apply yad | refine yal ?_ (Aside0.out ‹_›)))⟩)
           rintro ⟨p5, b6⟩ w56 ⟨hS_, h0_, h1_, h2_, h3_, h4_, h5_, h6_, h7_, h8_, h9_, h10_, h11_, h12_, h13_, h14_, h15_, h16_, h17_, h18_, h19_, h20_, h21_⟩; have n0_ : yap (Kd.R k36 36 w56 w.heap.size (fun k_ => some k_ ≠ (.slice d6 c5.length d3 : Value).ownBlock ∧ some k_ ≠ (.slice e1 c6.length d7 : Value).ownBlock ∧ some k_ ≠ (.slice d8 d0.length d4 : Value).ownBlock ∧ some k_ ≠ (.slice m7 b1.length m8 : Value).ownBlock) p5 n5) := ⟨h0_⟩; have n1_ : yap (Kd.Q k36 36 w56 w.heap.size (fun k_ => some k_ ≠ (p5 : Value).ownBlock ∧ some k_ ≠ (.slice e1 c6.length d7 : Value).ownBlock ∧ some k_ ≠ (.slice d8 d0.length d4 : Value).ownBlock) (.slice d6 c5.length d3) c5) := ⟨h1_⟩; have n2_ : yap (Kd.Q k36 36 w56 w.heap.size (fun k_ => some k_ ≠ (p5 : Value).ownBlock ∧ some k_ ≠ (.slice d6 c5.length d3 : Value).ownBlock ∧ some k_ ≠ (.slice d8 d0.length d4 : Value).ownBlock ∧ some k_ ≠ (.slice m7 b1.length m8 : Value).ownBlock) (.slice e1 c6.length d7) c6) := ⟨h2_⟩; have n3_ : yap (Kd.Q k36 36 w56 w.heap.size (fun k_ => some k_ ≠ (p5 : Value).ownBlock ∧ some k_ ≠ (.slice d6 c5.length d3 : Value).ownBlock ∧ some k_ ≠ (.slice e1 c6.length d7 : Value).ownBlock ∧ some k_ ≠ (.slice m7 b1.length m8 : Value).ownBlock) (.slice d8 d0.length d4) d0) := ⟨h3_⟩; have n4_ : yap (Kd.Q k36 36 w56 w.heap.size (fun k_ => some k_ ≠ (p5 : Value).ownBlock ∧ some k_ ≠ (.slice e1 c6.length d7 : Value).ownBlock ∧ some k_ ≠ (.slice d8 d0.length d4 : Value).ownBlock) (.slice m7 b1.length m8) b1) := ⟨h4_⟩; have n5_ : yap (Kd.R k27 27 w56 w.heap.size (fun _ => True) (.slice (some ad127) c9.length l3) c9) := ⟨h5_⟩; have n6_ : yap (w56.heap[b9]? = some (.cells #[.int .i64 e5, .int .i64 e6, .slice d6 c5.length d3] 25 (0, 0))) := ⟨h6_⟩; have n7_ : yap (w56.heap[c7]? = some (.cells #[.int .i64 g0, .int .i64 g1, .slice e1 c6.length d7] 25 (0, 0))) := ⟨h7_⟩; have n8_ : yap (w56.heap[b4]? = some (.cells #[.int .i64 g8, .int .i64 h7, .slice d8 d0.length d4] 25 (0, 0))) := ⟨h8_⟩; have n9_ : yap (w56.heap[b5]? = some (.cells #[.int .i64 d2, .int .i64 d1, .slice m7 b1.length m8] 25 (0, 0))) := ⟨h9_⟩; have e8 : yap (w56.heap[b6]? = some (.cells #[.int .i64 0, .int .i64 0, .slice none 0 0] 25 (0, 0))) := ⟨h10_⟩; have e9 : yap (w.heap.size ≤ b6) := ⟨h11_⟩; have g6 : yap (w.heap.size ≤ b6) := ⟨h12_⟩; have h8 : yap (b9 ≠ b6) := ⟨h13_⟩; have j5 : yap (b6 ≠ b9) := ⟨h14_⟩; have j8 : yap (c7 ≠ b6) := ⟨h15_⟩; have j9 : yap (b6 ≠ c7) := ⟨h16_⟩; have k0 : yap (b4 ≠ b6) := ⟨h17_⟩; have k1 : yap (b6 ≠ b4) := ⟨h18_⟩; have k3 : yap (b5 ≠ b6) := ⟨h19_⟩; have k4 : yap (b6 ≠ b5) := ⟨h20_⟩; have l4 : yap (Below w.heap.size w w56) := ⟨h21_⟩; clear a9; clear a1; clear a2; clear a4; clear a3; clear a5; clear a6; clear a8; clear a7; clear HB; clear h0_ h1_ h2_ h3_ h4_ h5_ h6_ h7_ h8_ h9_ h10_ h11_ h12_ h13_ h14_ h15_ h16_ h17_ h18_ h19_ h20_ h21_; have n9 := n0_; have a1 := n1_; have a2 := n2_; have a4 := n3_; have a3 := n4_; have a9 := n5_; have a5 := n6_; have a6 := n7_; have a8 := n8_; have a7 := n9_; have b2 := e8; have v1 := e9; have v2 := g6; have g9 := h8; have i2 := j5; have h0 := j8; have i3 := j9; have h2 := k0; have i4 := k1; have d9 := k3; have i5 := k4; have HB := l4; clear n0_ n1_ n2_ n3_ n4_ n5_ n6_ n7_ n8_ n9_ e8 e9 g6 h8 j5 j8 j9 k0 k1 k3 k4 l4; have hHeld : w56.cell? ⟨b5, 0, none⟩ = some (.int .i64 d2) ∧ w56.cell? ⟨b5, 1, none⟩ = some (.int .i64 d1) ∧ w56.cell? ⟨b5, 2, none⟩ = some (.slice m7 b1.length m8) ∧ w56.cell? (ad127.add ((b8).toNat * 5)) = some (.int .i64 ((ybo c9 b8).f0)) ∧ w56.cell? ⟨(ad127.add ((b8).toNat * 5)).block, (ad127.add ((b8).toNat * 5)).off + 1, none⟩ = some (.int .i64 ((ybo c9 b8).f1)) ∧ w56.cell? ⟨(ad127.add ((b8).toNat * 5)).block, (ad127.add ((b8).toNat * 5)).off + 2, none⟩ = some (.int .i64 ((ybo c9 b8).f2)) ∧ w56.cell? ⟨(ad127.add ((b8).toNat * 5)).block, (ad127.add ((b8).toNat * 5)).off + 3, none⟩ = some (.int .i64 ((ybo c9 b8).f3)) ∧ w56.cell? ⟨(ad127.add ((b8).toNat * 5)).block, (ad127.add ((b8).toNat * 5)).off + 4, none⟩ = some (.int .i64 ((ybo c9 b8).f4)) := hS_; obtain ⟨o9, p0, C7⟩ := Kd.R_slice n9.out
           (first | subst C7 | (injection C7 with f1_ f2_ f3_; have f4_ := f1_.symm; have f5_ := f3_.symm; clear f1_ f2_ f3_; subst f4_; subst f5_))
           refine norm_ (a' := ?_) ?_ ?_
           rotate_left
           ·
            simp only [putAll, Act.put, List.setIfInBounds_toArray, List.set_cons_zero, List.set_cons_succ]
            rfl
           refine one_ (i := 10) (N := none) q8_15 rfl rfl (one_of HT_.out (by kernel_rfl)) (by decide) (fun K hK => ?_)
           have cA : w56.cell? ⟨b6, 0, none⟩ = some (.int .i64 0) := (yat b2.out 0).trans rfl; have aU := blk_frozen b2.out 0; have M7 := g9.out; have M8 := h0.out; have M9 := h2.out; have N0 := d9.out; have N1 := i2.out; have N2 := i3.out; have N3 := i4.out; have N4 := i5.out; have cB : w56.cell? ⟨b6, 1, none⟩ = some (.int .i64 0) := (yat b2.out 1).trans rfl; have aV := blk_frozen b2.out 1; have N5 := g9.out; have N6 := h0.out; have N7 := h2.out; have N8 := d9.out; have N9 := i2.out; have O0 := i3.out; have O1 := i4.out; have O2 := i5.out; have cC : w56.cell? ⟨b6, 2, none⟩ = some (.slice none 0 0) := (yat b2.out 2).trans rfl; have aW := blk_frozen b2.out 2; have O3 := g9.out; have O4 := h0.out; have O5 := h2.out; have O6 := d9.out; have O7 := i2.out; have O8 := i3.out; have O9 := i4.out; have P0 := i5.out
           refine skip_ (w1 := ?_) (by rfl) rfl ?_ ?_
           rotate_left
           ·
            go_simp
            rfl
           refine hK.out _ _ ⟨((ybe (p := ⟨b6, _, none⟩) d9.out _).trans (((ybe (p := ⟨b6, _, none⟩) d9.out _).trans (((ybe (p := ⟨b6, _, none⟩) d9.out _).trans (hHeld.1)))))), ((ybe (p := ⟨b6, _, none⟩) d9.out _).trans (((ybe (p := ⟨b6, _, none⟩) d9.out _).trans (((ybe (p := ⟨b6, _, none⟩) d9.out _).trans (hHeld.2.1)))))), ((ybe (p := ⟨b6, _, none⟩) d9.out _).trans (((ybe (p := ⟨b6, _, none⟩) d9.out _).trans (((ybe (p := ⟨b6, _, none⟩) d9.out _).trans (hHeld.2.2.1)))))), ((ybe (p := ⟨b6, _, none⟩) (by first | exact yai (yaw a9.out b2.out (by decide)) | (rw [ybk]; exact yai (yaw a9.out b2.out (by decide))) | (show (Addr.add _ _).block ≠ _; rw [ybk]; exact yai (yaw a9.out b2.out (by decide))) | (dsimp only; exact yai (yaw a9.out b2.out (by decide)))) _).trans (((ybe (p := ⟨b6, _, none⟩) (by first | exact yai (yaw a9.out b2.out (by decide)) | (rw [ybk]; exact yai (yaw a9.out b2.out (by decide))) | (show (Addr.add _ _).block ≠ _; rw [ybk]; exact yai (yaw a9.out b2.out (by decide))) | (dsimp only; exact yai (yaw a9.out b2.out (by decide)))) _).trans (((ybe (p := ⟨b6, _, none⟩) (by first | exact yai (yaw a9.out b2.out (by decide)) | (rw [ybk]; exact yai (yaw a9.out b2.out (by decide))) | (show (Addr.add _ _).block ≠ _; rw [ybk]; exact yai (yaw a9.out b2.out (by decide))) | (dsimp only; exact yai (yaw a9.out b2.out (by decide)))) _).trans (hHeld.2.2.2.1)))))), ((ybe (p := ⟨b6, _, none⟩) (by first | exact yai (yaw a9.out b2.out (by decide)) | (rw [ybk]; exact yai (yaw a9.out b2.out (by decide))) | (show (Addr.add _ _).block ≠ _; rw [ybk]; exact yai (yaw a9.out b2.out (by decide))) | (dsimp only; exact yai (yaw a9.out b2.out (by decide)))) _).trans (((ybe (p := ⟨b6, _, none⟩) (by first | exact yai (yaw a9.out b2.out (by decide)) | (rw [ybk]; exact yai (yaw a9.out b2.out (by decide))) | (show (Addr.add _ _).block ≠ _; rw [ybk]; exact yai (yaw a9.out b2.out (by decide))) | (dsimp only; exact yai (yaw a9.out b2.out (by decide)))) _).trans (((ybe (p := ⟨b6, _, none⟩) (by first | exact yai (yaw a9.out b2.out (by decide)) | (rw [ybk]; exact yai (yaw a9.out b2.out (by decide))) | (show (Addr.add _ _).block ≠ _; rw [ybk]; exact yai (yaw a9.out b2.out (by decide))) | (dsimp only; exact yai (yaw a9.out b2.out (by decide)))) _).trans (hHeld.2.2.2.2.1)))))), ((ybe (p := ⟨b6, _, none⟩) (by first | exact yai (yaw a9.out b2.out (by decide)) | (rw [ybk]; exact yai (yaw a9.out b2.out (by decide))) | (show (Addr.add _ _).block ≠ _; rw [ybk]; exact yai (yaw a9.out b2.out (by decide))) | (dsimp only; exact yai (yaw a9.out b2.out (by decide)))) _).trans (((ybe (p := ⟨b6, _, none⟩) (by first | exact yai (yaw a9.out b2.out (by decide)) | (rw [ybk]; exact yai (yaw a9.out b2.out (by decide))) | (show (Addr.add _ _).block ≠ _; rw [ybk]; exact yai (yaw a9.out b2.out (by decide))) | (dsimp only; exact yai (yaw a9.out b2.out (by decide)))) _).trans (((ybe (p := ⟨b6, _, none⟩) (by first | exact yai (yaw a9.out b2.out (by decide)) | (rw [ybk]; exact yai (yaw a9.out b2.out (by decide))) | (show (Addr.add _ _).block ≠ _; rw [ybk]; exact yai (yaw a9.out b2.out (by decide))) | (dsimp only; exact yai (yaw a9.out b2.out (by decide)))) _).trans (hHeld.2.2.2.2.2.1)))))), ((ybe (p := ⟨b6, _, none⟩) (by first | exact yai (yaw a9.out b2.out (by decide)) | (rw [ybk]; exact yai (yaw a9.out b2.out (by decide))) | (show (Addr.add _ _).block ≠ _; rw [ybk]; exact yai (yaw a9.out b2.out (by decide))) | (dsimp only; exact yai (yaw a9.out b2.out (by decide)))) _).trans (((ybe (p := ⟨b6, _, none⟩) (by first | exact yai (yaw a9.out b2.out (by decide)) | (rw [ybk]; exact yai (yaw a9.out b2.out (by decide))) | (show (Addr.add _ _).block ≠ _; rw [ybk]; exact yai (yaw a9.out b2.out (by decide))) | (dsimp only; exact yai (yaw a9.out b2.out (by decide)))) _).trans (((ybe (p := ⟨b6, _, none⟩) (by first | exact yai (yaw a9.out b2.out (by decide)) | (rw [ybk]; exact yai (yaw a9.out b2.out (by decide))) | (show (Addr.add _ _).block ≠ _; rw [ybk]; exact yai (yaw a9.out b2.out (by decide))) | (dsimp only; exact yai (yaw a9.out b2.out (by decide)))) _).trans (hHeld.2.2.2.2.2.2.1)))))), ((ybe (p := ⟨b6, _, none⟩) (by first | exact yai (yaw a9.out b2.out (by decide)) | (rw [ybk]; exact yai (yaw a9.out b2.out (by decide))) | (show (Addr.add _ _).block ≠ _; rw [ybk]; exact yai (yaw a9.out b2.out (by decide))) | (dsimp only; exact yai (yaw a9.out b2.out (by decide)))) _).trans (((ybe (p := ⟨b6, _, none⟩) (by first | exact yai (yaw a9.out b2.out (by decide)) | (rw [ybk]; exact yai (yaw a9.out b2.out (by decide))) | (show (Addr.add _ _).block ≠ _; rw [ybk]; exact yai (yaw a9.out b2.out (by decide))) | (dsimp only; exact yai (yaw a9.out b2.out (by decide)))) _).trans (((ybe (p := ⟨b6, _, none⟩) (by first | exact yai (yaw a9.out b2.out (by decide)) | (rw [ybk]; exact yai (yaw a9.out b2.out (by decide))) | (show (Addr.add _ _).block ≠ _; rw [ybk]; exact yai (yaw a9.out b2.out (by decide))) | (dsimp only; exact yai (yaw a9.out b2.out (by decide)))) _).trans (hHeld.2.2.2.2.2.2.2))))))⟩ (fun hHeld => ?_)
           clear hK K
           refine pz_ 11 12 q8_16 HT_ (by kernel_rfl) ?_
           refine done_ (done_of HT_.out (by kernel_rfl)) ?_
           have aX := i2.out; have aY := g9.out; have aZ := i3.out; have bA := h0.out; have bB := i4.out; have bC := h2.out; have bD := i5.out; have bE := d9.out; obtain ⟨P1, P2, P3⟩ := cc3_ b2.out; obtain ⟨P4, P5, P6⟩ := cf3_ b2.out; have bF := o0.out; have bG := k9.out; have bH := o1.out; have bI := l1.out; have bJ := o2.out; have bK := l2.out; obtain ⟨P7, P8, P9⟩ := cc3_ a7.out; obtain ⟨Q0, Q1, Q3⟩ := cf3_ a7.out
           try go_wp2
           go_roundg k2
           case measure => have := HJ5.out; have := HK2.out; omega
           case rel => exact ⟨(wrap64 (b8 + 1)), (m6), (n1), (n5), (.slice o9 n5.length p0), (by first | rfl | (simp; done) | (simp [*]; done)), H', ⟨by have := HJ5.out; have := HK2.out; omega⟩, ⟨by (with_reducible repeat (first | apply yaq | apply yar | apply yas)); exact yau (yag (p := ⟨b5, 2, none⟩) (yag (p := ⟨b5, 1, none⟩) (yag (p := ⟨b5, 0, none⟩) (yag (p := ⟨b6, 2, none⟩) (yag (p := ⟨b6, 1, none⟩) (yag (p := ⟨b6, 0, none⟩) (yay (yay a9.out b2.out (by decide)) a7.out (by decide)) (fun _ hk => hk.1.2) (.int .i64 m6)) (fun _ hk => hk.1.2) (.int .i64 n1)) (fun _ hk => hk.1.2) (.slice o9 n5.length p0)) (fun _ hk => hk.2) (.int .i64 m6)) (fun _ hk => hk.2) (.int .i64 n1)) (fun _ hk => hk.2) (.slice o9 n5.length p0)) (fun _ hk => trivial)⟩, ⟨by (with_reducible repeat (first | apply yam | apply yan | apply yak)); exact yao (yaf (p := ⟨b5, 2, none⟩) (yaf (p := ⟨b5, 1, none⟩) (yaf (p := ⟨b5, 0, none⟩) (yaf (p := ⟨b6, 2, none⟩) (yaf (p := ⟨b6, 1, none⟩) (yaf (p := ⟨b6, 0, none⟩) (yax (yax a1.out b2.out (by decide)) a7.out (by decide)) (fun _ hk => hk.1.2) (.int .i64 m6)) (fun _ hk => hk.1.2) (.int .i64 n1)) (fun _ hk => hk.1.2) (.slice o9 n5.length p0)) (fun _ hk => hk.2) (.int .i64 m6)) (fun _ hk => hk.2) (.int .i64 n1)) (fun _ hk => hk.2) (.slice o9 n5.length p0)) (fun _ hk => by grind)⟩, ⟨by (with_reducible repeat (first | apply yam | apply yan | apply yak)); exact yao (yaf (p := ⟨b5, 2, none⟩) (yaf (p := ⟨b5, 1, none⟩) (yaf (p := ⟨b5, 0, none⟩) (yaf (p := ⟨b6, 2, none⟩) (yaf (p := ⟨b6, 1, none⟩) (yaf (p := ⟨b6, 0, none⟩) (yax (yax a2.out b2.out (by decide)) a7.out (by decide)) (fun _ hk => hk.1.2) (.int .i64 m6)) (fun _ hk => hk.1.2) (.int .i64 n1)) (fun _ hk => hk.1.2) (.slice o9 n5.length p0)) (fun _ hk => hk.2) (.int .i64 m6)) (fun _ hk => hk.2) (.int .i64 n1)) (fun _ hk => hk.2) (.slice o9 n5.length p0)) (fun _ hk => by grind)⟩, ⟨by (with_reducible repeat (first | apply yam | apply yan | apply yak)); exact yao (yaf (p := ⟨b5, 2, none⟩) (yaf (p := ⟨b5, 1, none⟩) (yaf (p := ⟨b5, 0, none⟩) (yaf (p := ⟨b6, 2, none⟩) (yaf (p := ⟨b6, 1, none⟩) (yaf (p := ⟨b6, 0, none⟩) (yax (yax a4.out b2.out (by decide)) a7.out (by decide)) (fun _ hk => hk.1.2) (.int .i64 m6)) (fun _ hk => hk.1.2) (.int .i64 n1)) (fun _ hk => hk.1.2) (.slice o9 n5.length p0)) (fun _ hk => hk.2) (.int .i64 m6)) (fun _ hk => hk.2) (.int .i64 n1)) (fun _ hk => hk.2) (.slice o9 n5.length p0)) (fun _ hk => by grind)⟩, ⟨Kd.Q_of_R (by (with_reducible repeat (first | apply yaq | apply yar | apply yas)); exact yau (yag (p := ⟨b5, 2, none⟩) (yag (p := ⟨b5, 1, none⟩) (yag (p := ⟨b5, 0, none⟩) (yag (p := ⟨b6, 2, none⟩) (yag (p := ⟨b6, 1, none⟩) (yag (p := ⟨b6, 0, none⟩) (yay (yay n9.out b2.out (by decide)) a7.out (by decide)) (fun _ hk => hk.1.2) (.int .i64 m6)) (fun _ hk => hk.1.2) (.int .i64 n1)) (fun _ hk => hk.1.2) (.slice o9 n5.length p0)) (fun _ hk => hk.2) (.int .i64 m6)) (fun _ hk => hk.2) (.int .i64 n1)) (fun _ hk => hk.2) (.slice o9 n5.length p0)) (fun _ hk => by grind))⟩, ⟨by repeat (with_reducible first | exact a5.out | refine oneB ?_ | refine ybl ?_ k9.out _ | refine ybl ?_ g9.out _)⟩, ⟨by repeat (with_reducible first | exact a6.out | refine oneB ?_ | refine ybl ?_ l1.out _ | refine ybl ?_ h0.out _)⟩, ⟨by repeat (with_reducible first | exact a8.out | refine oneB ?_ | refine ybl ?_ l2.out _ | refine ybl ?_ h2.out _)⟩, ⟨by (repeat refine oneB ?_); refine ybn (cs := #[.int .i64 m6, .int .i64 n1, .slice m7 b1.length m8]) ?_ 2 _ rfl; refine ybn (cs := #[.int .i64 m6, .int .i64 d1, .slice m7 b1.length m8]) ?_ 1 _ rfl; refine ybn (cs := #[.int .i64 d2, .int .i64 d1, .slice m7 b1.length m8]) ?_ 0 _ rfl; (repeat refine oneB ?_); refine ybl ?_ d9.out _; (repeat refine oneB ?_); refine ybl ?_ d9.out _; (repeat refine oneB ?_); refine ybl ?_ d9.out _; exact upB a7.out⟩, ⟨by repeat (with_reducible first | exact HB.out | apply yae | apply yab | apply yad | refine yal ?_ (Aside0.out ‹_›))⟩⟩
          ·
           replace c51 := Bool.eq_false_iff.mpr c51
           subst c51
           rw [if_neg (show ¬ (false = true) by decide)] at H
           rw [hrt] at H
           exact absurd H (by simp)
         ·
          rw [if_neg c49] at H
          exact absurd H (by simp)
        ·
         rw [if_neg c48] at H
         have C6 : decide (b8 < (c9.length : Int)) = false := decide_eq_false c48; clear c48; obtain ⟨ji70, hji70⟩ : ∃ j_ : Int, (wrap64 ((c9.length : Int) / 2)) = j_ := ⟨_, rfl⟩
         replace H : (if 0 ≤ (ji70) then (if (ji70) ≤ (c9.length : Int) then ((impl_OpsDo.f e5 e6 c5 (c9.take ((ji70) : Int).toNat)).bind fun v3 => ((impl_OpsDo.f v3.1 v3.2.1 v3.2.2.1 (c9.drop ((ji70) : Int).toNat)).bind fun v4 => ((impl_OpsDo.f e5 e6 c5 (([] : List (S27)))).bind fun v5 => ((laws_eaRas.f k2 d2 d1 b1 g0 g1 c6).bind fun B5 => (if B5 = true then (if v3.2.2.2 = true then (if v4.2.2.2 = true then (if v5.2.2.2 = true then ((laws_eaRas.f k2 v4.1 v4.2.1 v4.2.2.1 g0 g1 c6).bind fun B6 => (if B6 = true then ((laws_eaRas.f k2 v5.1 v5.2.1 v5.2.2.1 e5 e6 c5).bind fun B7 => (if B7 = true then ((impl_RasOk.f k2 g0 g1 c6).bind fun B8 => (some B8)) else (some false))) else (some false))) else (some false)) else (some false)) else (some false)) else (some false)))))) else (none)) else (none)) = some r := by first | (rw [hji70] at H; exact H) | (simp only [hji70] at H ⊢; exact H)
         have hji70w : (IntKind.i64.wrap ((c9.length : Int) / 2)) = ji70 := (i64_w _).trans hji70
         by_cases c71 : 0 ≤ (ji70)
         ·
          rw [if_pos c71] at H
          have bL := eq_true c71; replace c71 := decide_eq_true c71
          by_cases c72 : (ji70) ≤ (c9.length : Int)
          ·
           rw [if_pos c72] at H
           have bM := eq_true c72; replace c72 := decide_eq_true c72; obtain ⟨y135, hy135⟩ : ∃ y_ : List (S27), y_ = (c9.take ((ji70) : Int).toNat) := ⟨_, rfl⟩
           conv at H => enter [1, 1, 4]; rw [← hy135]
           have Ny135 := yaa hy135; clear hy135; obtain ⟨⟨k5, k6, e7, T5⟩, A73, H⟩ := bindA H; (try dsimp only at H); have bN := eq_true (of_decide_eq_true (by assumption) : 0 ≤ (ji70)); have bO := eq_true (of_decide_eq_true (by assumption) : (ji70) ≤ (c9.length : Int)); obtain ⟨y146, hy146⟩ : ∃ y_ : List (S27), y_ = (c9.drop ((ji70) : Int).toNat) := ⟨_, rfl⟩
           conv at H => enter [1, 1, 4]; rw [← hy146]
           have Ny146 := yaa hy146; clear hy146; obtain ⟨⟨m9, n2, n3, T6⟩, A76, H⟩ := bindA H; (try dsimp only at H); obtain ⟨y157, hy157⟩ : ∃ y_ : List (S27), y_ = (([] : List (S27))) := ⟨_, rfl⟩
           conv at H => enter [1, 1, 4]; rw [← hy157]
           have Ny157 := yaa hy157; clear hy157; obtain ⟨⟨n6, n8, n7, T7⟩, A77, H⟩ := bindA H; (try dsimp only at H); obtain ⟨B5, A78, H⟩ := bindA H; (try dsimp only at H)
           by_cases c79 : B5 = true
           ·
            subst c79
            rw [if_pos rfl] at H
            by_cases c80 : T5 = true
            ·
             subst c80
             rw [if_pos rfl] at H
             by_cases c81 : T6 = true
             ·
              subst c81
              rw [if_pos rfl] at H
              by_cases c82 : T7 = true
              ·
               subst c82
               rw [if_pos rfl] at H
               obtain ⟨B6, A83, H⟩ := bindA H; (try dsimp only at H)
               by_cases c84 : B6 = true
               ·
                subst c84
                rw [if_pos rfl] at H
                obtain ⟨B7, A85, H⟩ := bindA H; (try dsimp only at H)
                by_cases c86 : B7 = true
                ·
                 subst c86
                 rw [if_pos rfl] at H
                 obtain ⟨B8, A87, H⟩ := bindA H; (try dsimp only at H); obtain rfl := Option.some.inj H
                 try go_wp2
                 replace a9 := yaa (yas a9.out); replace a1 := yaa (yak a1.out); replace a2 := yaa (yak a2.out); replace a4 := yaa (yak a4.out); replace a3 := yaa (yak a3.out); replace a5 := yaa (blk_drew a5.out); replace a6 := yaa (blk_drew a6.out); replace a8 := yaa (blk_drew a8.out); replace a7 := yaa (blk_drew a7.out); replace HB := yaa (yad HB.out); have q89 : ((ji70) : Int) ≤ ((c9.length : Int) : Int) := of_decide_eq_true (by assumption); obtain ⟨i089, hi089, _, C8, _⟩ := info_parts info27; have hroom89 : c9.length ≤ l3 := (yaz a9.out).2.1; have hC89 : Kd.C k27 _ n0 c9.length c9 := (yaz a9.out).2.2; have hcut89 := cut_to (P := Try.prog) 51 27 .i64 Try.underlying51 hi089 n0 c9.length l3 (ji70) (of_decide_eq_true (by assumption)) q89 hroom89; have hr89 := Kd.C_take (m := ((ji70) : Int).toNat) hC89 (by omega); have hy89 : y135.length = ((ji70) : Int).toNat := (by rw [Ny135.out, List.length_take]; omega)
                 rw [← Ny135.out] at hr89
                 rw [← hy89] at hcut89
                 have HR138 := yaa hr89; have HC138 := yaa (show y135.length ≤ l3 from by omega); clear hr89 hC89 hroom89 hi089 C8; have KY89 := yaa hy89; clear hy89; have KL89 := yaa (show ((ji70) : Int).toNat ≤ c9.length from by omega); replace q89 := eq_true q89
                 refine start_ (n := 11) (S := fun w' => w'.cell? ⟨b9, 0, none⟩ = some (.int .i64 e5) ∧ w'.cell? ⟨b9, 1, none⟩ = some (.int .i64 e6) ∧ w'.cell? ⟨b9, 2, none⟩ = some (.slice d6 c5.length d3)) (ds := []) q8_17 (by kernel_rfl) rfl rfl ⟨(yat a5.out 0).trans rfl, (yat a5.out 1).trans rfl, (yat a5.out 2).trans rfl⟩ (fun hHeld => ?_); refine with_tabW laws_FnOpsDo.tab19 laws_FnOpsDo.bits19 (fun HT_ HW_ => ?_)
                 generalize wr.drew = w88 at a9 a1 a2 a4 a3 a5 a6 a8 a7 HB HR138 hHeld ⊢
                 refine pz_ 1 82 q8_18 HT_ (by kernel_rfl) ?_
                 refine pz_ 2 83 q8_19 HT_ (by kernel_rfl) ?_
                 refine pz_ 3 84 q8_20 HT_ (by kernel_rfl) ?_
                 refine tz_ 0 81 q8_21 HT_ HW_ (by kernel_rfl) hHeld ?_
                 refine join_ (σ := Value × Nat) 2 q8_22 (fun s_ => [(85, .tuple #[.agg #[.int .i64 k5, .int .i64 k6, s_.1], .bool true]), (14, .pointer (some ⟨s_.2, 0, none⟩)), (80, .tuple #[.agg #[.int .i64 k5, .int .i64 k6, s_.1], .bool true]), (86, .agg #[.int .i64 k5, .int .i64 k6, s_.1]), (87, .bool true)]) (fun s_ w' => (w'.cell? ⟨b9, 0, none⟩ = some (.int .i64 e5) ∧ w'.cell? ⟨b9, 1, none⟩ = some (.int .i64 e6) ∧ w'.cell? ⟨b9, 2, none⟩ = some (.slice d6 c5.length d3)) ∧ (Kd.R k36 36 w' w.heap.size (fun k_ => some k_ ≠ (.slice d6 c5.length d3 : Value).ownBlock ∧ some k_ ≠ (.slice e1 c6.length d7 : Value).ownBlock ∧ some k_ ≠ (.slice d8 d0.length d4 : Value).ownBlock ∧ some k_ ≠ (u127002 : Value).ownBlock) s_.1 e7) ∧ (Kd.Q k36 36 w' w.heap.size (fun k_ => some k_ ≠ (s_.1 : Value).ownBlock ∧ some k_ ≠ (.slice e1 c6.length d7 : Value).ownBlock ∧ some k_ ≠ (.slice d8 d0.length d4 : Value).ownBlock) (.slice d6 c5.length d3) c5) ∧ (Kd.Q k36 36 w' w.heap.size (fun k_ => some k_ ≠ (s_.1 : Value).ownBlock ∧ some k_ ≠ (.slice d6 c5.length d3 : Value).ownBlock ∧ some k_ ≠ (.slice d8 d0.length d4 : Value).ownBlock ∧ some k_ ≠ (u127002 : Value).ownBlock) (.slice e1 c6.length d7) c6) ∧ (Kd.Q k36 36 w' w.heap.size (fun k_ => some k_ ≠ (s_.1 : Value).ownBlock ∧ some k_ ≠ (.slice d6 c5.length d3 : Value).ownBlock ∧ some k_ ≠ (.slice e1 c6.length d7 : Value).ownBlock ∧ some k_ ≠ (u127002 : Value).ownBlock) (.slice d8 d0.length d4) d0) ∧ (Kd.Q k36 36 w' w.heap.size (fun k_ => some k_ ≠ (s_.1 : Value).ownBlock ∧ some k_ ≠ (.slice e1 c6.length d7 : Value).ownBlock ∧ some k_ ≠ (.slice d8 d0.length d4 : Value).ownBlock) u127002 b1) ∧ (Kd.R k27 27 w' w.heap.size (fun _ => True) (.slice n0 c9.length l3) c9) ∧ (w'.heap[b9]? = some (.cells #[.int .i64 e5, .int .i64 e6, .slice d6 c5.length d3] 25 (0, 0))) ∧ (w'.heap[c7]? = some (.cells #[.int .i64 g0, .int .i64 g1, .slice e1 c6.length d7] 25 (0, 0))) ∧ (w'.heap[b4]? = some (.cells #[.int .i64 g8, .int .i64 h7, .slice d8 d0.length d4] 25 (0, 0))) ∧ (w'.heap[b5]? = some (.cells #[.int .i64 d2, .int .i64 d1, u127002] 25 (0, 0))) ∧ (w'.heap[s_.2]? = some (.cells #[.int .i64 0, .int .i64 0, .slice none 0 0] 25 (0, 0))) ∧ (w.heap.size ≤ s_.2) ∧ (w.heap.size ≤ s_.2) ∧ (b9 ≠ s_.2) ∧ (s_.2 ≠ b9) ∧ (c7 ≠ s_.2) ∧ (s_.2 ≠ c7) ∧ (b4 ≠ s_.2) ∧ (s_.2 ≠ b4) ∧ (b5 ≠ s_.2) ∧ (s_.2 ≠ b5) ∧ (Below w.heap.size w w')) ?_ ?_
                 rotate_left
                 ·
                  intro hCont
                  refine two_ (i := 4) (j := 8) (Ni := some 85) (Nj := some 14) q8_23 q8_24 rfl rfl rfl rfl (two_of HT_.out (by kernel_rfl)) (by decide) (by decide) (fun K hK => ?_) (fun K hK => ?_)
                  ·
                   skip
                   refine goes_ Try.func27 (by kernel_rfl) rfl #[.agg #[.int .i64 e5, .int .i64 e6, .slice d6 c5.length d3], .slice n0 y135.length l3] (by first | rfl | (simp [Region.wanted, yielded, *]; done)) rfl rfl (by (try simp only [List.map_toArray, List.map_cons, List.map_nil]); first | done | rfl | (simp only [List.length_drop, List.length_take]; rfl)) ?_
                   with_reducible refine (impl_OpsDo.calls e5 e6 _ _ c5 _ _ y135 k5 k6 e7 true _ ?side1 ?side2 ?side3 ?side4 A73.out).mono ?_
                   (case side1 => repeat (first | exact (ybh a1.out).2.2 | (with_reducible refine ybc ?_ _) | (with_reducible refine ybd ?_ _) | (with_reducible refine ybj ?_)))
                   (case side2 => exact (ybh a1.out).2.1)
                   (case side3 => repeat (first | exact (by repeat (first | (with_reducible exact HR138.out) | (with_reducible refine ybc ?_ _) | (with_reducible refine ybd ?_ _) | (with_reducible refine ybj ?_) | exact HR138.out)) | (with_reducible refine ybc ?_ _) | (with_reducible refine ybd ?_ _) | (with_reducible refine ybj ?_)))
                   (case side4 => exact HC138.out)
                   rintro e w90 ⟨p6, rfl, ho0, hb⟩; refine ⟨_, rfl, ?_⟩; have n0_ := yaa (yah (upR a9.out) hb); have n1_ := yaa (yav (upQ a1.out) (ybb ho0) hb); have n2_ := yaa (yav (upQ a2.out) (ybb ho0) hb); have n3_ := yaa (yav (upQ a4.out) (ybb ho0) hb); have n4_ := yaa (yav (upQ a3.out) (ybb ho0) hb)
                   have n5_ := yaa (Kd.R_lower (yba (yba (yba (yba ho0 (ybm (upQ a1.out))) (ybm (upQ a2.out))) (ybm (upQ a4.out))) (ybm (upQ a3.out))) (ybf (by repeat (with_reducible first | exact HB.out | apply yae | apply yab | apply yad | refine yal ?_ (Aside0.out ‹_›)))))
                   have n6_ := yaa (yac (upB a5.out) hb); have n7_ := yaa (yac (upB a6.out) hb); have n8_ := yaa (yac (upB a8.out) hb); have n9_ := yaa (yac (upB a7.out) hb)
                   have e8 := yaa (Kd.C_below (by repeat (first | (with_reducible exact HR138.out) | (with_reducible refine ybc ?_ _) | (with_reducible refine ybd ?_ _) | (with_reducible refine ybj ?_) | exact HR138.out)) hb)
                   have e9 := yaa (ybg (by repeat (with_reducible first | exact HB.out | apply yae | apply yab | apply yad | refine yal ?_ (Aside0.out ‹_›))) hb)
                   clear a9; clear a1; clear a2; clear a4; clear a3; clear a5; clear a6; clear a8; clear a7; clear HR138; clear HB; have a9 := n0_; have a1 := n1_; have a2 := n2_; have a4 := n3_; have a3 := n4_; have d5 := n5_; have a5 := n6_; have a6 := n7_; have a8 := n8_; have a7 := n9_; have HR138 := e8; have HB := e9; clear n0_ n1_ n2_ n3_ n4_ n5_ n6_ n7_ n8_ n9_ e8 e9; (try clear hb); (try clear hb2); (try clear hk); (try clear hi); (try clear ho0)
                   refine hK.out _ _ ⟨(yat a5.out 0).trans rfl, (yat a5.out 1).trans rfl, (yat a5.out 2).trans rfl⟩ (fun hHeld => ?_)
                   clear hK K
                   refine norm_ (a' := ?_) ?_ ?_
                   rotate_left
                   ·
                    show Act.put _ (some 85) _ = _
                    simp only [Act.put, List.setIfInBounds_toArray, List.set_cons_zero, List.set_cons_succ, i64_w, i32_w]
                    rfl
                   refine pz_ 5 80 q8_25 HT_ (by kernel_rfl) ?_
                   refine pz_ 6 86 q8_26 HT_ (by kernel_rfl) ?_
                   refine pz_ 7 87 q8_27 HT_ (by kernel_rfl) ?_
                   refine one_ (i := 8) (N := some 14) q8_22 rfl rfl (one_of HT_.out (by kernel_rfl)) (by decide) (fun K hK => ?_)
                   refine box_step ?hg (N := 14) ?hd (cs := #[.int .i64 0, .int .i64 0, .slice none 0 0]) (t := 25) ?hr ?_; (case hd => rfl); (case hg => first | rfl | (simp [Region.wanted, yielded, *]; done)); (case hr => first | (go_simp; done) | (go_simp; rfl))
                   intro b0 hg w91 hbox hb; have n0_ := yaa (yah (upR a9.out) hb); have n1_ := yaa (yaj (upQ a1.out) hb); have n2_ := yaa (yaj (upQ a2.out) hb); have n3_ := yaa (yaj (upQ a4.out) hb); have n4_ := yaa (yaj (upQ a3.out) hb); have n5_ := yaa (yah (upR d5.out) hb); have n6_ := yaa (yac (upB a5.out) hb); have n7_ := yaa (yac (upB a6.out) hb); have n8_ := yaa (yac (upB a8.out) hb); have n9_ := yaa (yac (upB a7.out) hb)
                   have e8 := yaa (Kd.C_below (by repeat (first | (with_reducible exact HR138.out) | (with_reducible refine ybc ?_ _) | (with_reducible refine ybd ?_ _) | (with_reducible refine ybj ?_) | exact HR138.out)) hb)
                   have e9 := yaa (ybg (by repeat (with_reducible first | exact HB.out | apply yae | apply yab | apply yad | refine yal ?_ (Aside0.out ‹_›))) hb)
                   have g6 := yaa (hbox)
                   have h8 := yaa ((by rw [hg]; exact (ybf (by repeat (with_reducible first | exact HB.out | apply yae | apply yab | apply yad | refine yal ?_ (Aside0.out ‹_›)))) : w.heap.size ≤ b0))
                   have j5 := yaa ((by rw [hg]; exact (ybf (by repeat (with_reducible first | exact HB.out | apply yae | apply yab | apply yad | refine yal ?_ (Aside0.out ‹_›)))) : w.heap.size ≤ b0))
                   have j8 := yaa ((by rw [hg]; exact Nat.ne_of_lt (ybi (upB a5.out)) : b9 ≠ b0)); have j9 := yaa ((by rw [hg]; exact Nat.ne_of_gt (ybi (upB a5.out)) : b0 ≠ b9)); have k0 := yaa ((by rw [hg]; exact Nat.ne_of_lt (ybi (upB a6.out)) : c7 ≠ b0)); have k1 := yaa ((by rw [hg]; exact Nat.ne_of_gt (ybi (upB a6.out)) : b0 ≠ c7)); have k3 := yaa ((by rw [hg]; exact Nat.ne_of_lt (ybi (upB a8.out)) : b4 ≠ b0)); have k4 := yaa ((by rw [hg]; exact Nat.ne_of_gt (ybi (upB a8.out)) : b0 ≠ b4)); have l4 := yaa ((by rw [hg]; exact Nat.ne_of_lt (ybi (upB a7.out)) : b5 ≠ b0)); have p1 := yaa ((by rw [hg]; exact Nat.ne_of_gt (ybi (upB a7.out)) : b0 ≠ b5)); clear a9; clear a1; clear a2; clear a4; clear a3; clear d5; clear a5; clear a6; clear a8; clear a7; clear HR138; clear HB; have a9 := n0_; have a1 := n1_; have a2 := n2_; have a4 := n3_; have a3 := n4_; have d5 := n5_; have a5 := n6_; have a6 := n7_; have a8 := n8_; have a7 := n9_; have HR138 := e8; have HB := e9; have b7 := g6; have v6 := h8; have v7 := j5; have e0 := j8; have i6 := j9; have f5 := k0; have i7 := k1; have f9 := k3; have j7 := k4; have f6 := l4; have i8 := p1; clear n0_ n1_ n2_ n3_ n4_ n5_ n6_ n7_ n8_ n9_ e8 e9 g6 h8 j5 j8 j9 k0 k1 k3 k4 l4 p1; clear hb hbox hg
                   refine hK.out _ _ ⟨(yat a5.out 0).trans rfl, (yat a5.out 1).trans rfl, (yat a5.out 2).trans rfl⟩ (fun hHeld => ?_)
                   clear hK K
                   refine norm_ (a' := ?_) ?_ ?_
                   rotate_left
                   ·
                    show Act.put _ (some 14) _ = _
                    simp only [Act.put, List.setIfInBounds_toArray, List.set_cons_zero, List.set_cons_succ, i64_w, i32_w]
                    rfl
                   exact norm_ (by simp only [putAll, Act.put, List.setIfInBounds_toArray, List.set_cons_zero, List.set_cons_succ]) (hCont (p6, b0) _ ⟨hHeld, (by (with_reducible repeat (first | apply yaq | apply yar | apply yas)); exact yau d5.out (fun _ hk => by grind)), (by (with_reducible repeat (first | apply yam | apply yan | apply yak)); exact yao a1.out (fun _ hk => by grind)), (by (with_reducible repeat (first | apply yam | apply yan | apply yak)); exact yao a2.out (fun _ hk => by grind)), (by (with_reducible repeat (first | apply yam | apply yan | apply yak)); exact yao a4.out (fun _ hk => by grind)), (by (with_reducible repeat (first | apply yam | apply yan | apply yak)); exact yao a3.out (fun _ hk => by grind)), (upR a9.out), (upB a5.out), (upB a6.out), (upB a8.out), (upB a7.out), (upB b7.out), v6.out, v7.out, e0.out, i6.out, f5.out, i7.out, f9.out, j7.out, f6.out, i8.out, (by repeat (with_reducible first | exact HB.out | apply yae | apply yab | apply yad | refine yal ?_ (Aside0.out ‹_›)))⟩)
                  ·
                   skip
                   refine box_step ?hg (N := 14) ?hd (cs := #[.int .i64 0, .int .i64 0, .slice none 0 0]) (t := 25) ?hr ?_; (case hd => rfl); (case hg => first | rfl | (simp [Region.wanted, yielded, *]; done)); (case hr => first | (go_simp; done) | (go_simp; rfl))
                   intro b0 hg w90 hbox hb; have n0_ := yaa (yah (upR a9.out) hb); have n1_ := yaa (yaj (upQ a1.out) hb); have n2_ := yaa (yaj (upQ a2.out) hb); have n3_ := yaa (yaj (upQ a4.out) hb); have n4_ := yaa (yaj (upQ a3.out) hb); have n5_ := yaa (yac (upB a5.out) hb); have n6_ := yaa (yac (upB a6.out) hb); have n7_ := yaa (yac (upB a8.out) hb); have n8_ := yaa (yac (upB a7.out) hb)
                   have n9_ := yaa (Kd.C_below (by repeat (first | (with_reducible exact HR138.out) | (with_reducible refine ybc ?_ _) | (with_reducible refine ybd ?_ _) | (with_reducible refine ybj ?_) | exact HR138.out)) hb)
                   have e8 := yaa (ybg (by repeat (with_reducible first | exact HB.out | apply yae | apply yab | apply yad | refine yal ?_ (Aside0.out ‹_›))) hb)
                   have e9 := yaa (hbox)
                   have g6 := yaa ((by rw [hg]; exact (ybf (by repeat (with_reducible first | exact HB.out | apply yae | apply yab | apply yad | refine yal ?_ (Aside0.out ‹_›)))) : w.heap.size ≤ b0))
                   have h8 := yaa ((by rw [hg]; exact (ybf (by repeat (with_reducible first | exact HB.out | apply yae | apply yab | apply yad | refine yal ?_ (Aside0.out ‹_›)))) : w.heap.size ≤ b0))
                   have j5 := yaa ((by rw [hg]; exact Nat.ne_of_lt (ybi (upB a5.out)) : b9 ≠ b0)); have j8 := yaa ((by rw [hg]; exact Nat.ne_of_gt (ybi (upB a5.out)) : b0 ≠ b9)); have j9 := yaa ((by rw [hg]; exact Nat.ne_of_lt (ybi (upB a6.out)) : c7 ≠ b0)); have k0 := yaa ((by rw [hg]; exact Nat.ne_of_gt (ybi (upB a6.out)) : b0 ≠ c7)); have k1 := yaa ((by rw [hg]; exact Nat.ne_of_lt (ybi (upB a8.out)) : b4 ≠ b0)); have k3 := yaa ((by rw [hg]; exact Nat.ne_of_gt (ybi (upB a8.out)) : b0 ≠ b4)); have k4 := yaa ((by rw [hg]; exact Nat.ne_of_lt (ybi (upB a7.out)) : b5 ≠ b0)); have l4 := yaa ((by rw [hg]; exact Nat.ne_of_gt (ybi (upB a7.out)) : b0 ≠ b5)); clear a9; clear a1; clear a2; clear a4; clear a3; clear a5; clear a6; clear a8; clear a7; clear HR138; clear HB; have a9 := n0_; have a1 := n1_; have a2 := n2_; have a4 := n3_; have a3 := n4_; have a5 := n5_; have a6 := n6_; have a8 := n7_; have a7 := n8_; have HR138 := n9_; have HB := e8; have b7 := e9; have v6 := g6; have v7 := h8; have e0 := j5; have i6 := j8; have f5 := j9; have i7 := k0; have f9 := k1; have j7 := k3; have f6 := k4; have i8 := l4; clear n0_ n1_ n2_ n3_ n4_ n5_ n6_ n7_ n8_ n9_ e8 e9 g6 h8 j5 j8 j9 k0 k1 k3 k4 l4; clear hb hbox hg
                   refine hK.out _ _ ⟨(yat a5.out 0).trans rfl, (yat a5.out 1).trans rfl, (yat a5.out 2).trans rfl⟩ (fun hHeld => ?_)
                   clear hK K
                   refine norm_ (a' := ?_) ?_ ?_
                   rotate_left
                   ·
                    show Act.put _ (some 14) _ = _
                    simp only [Act.put, List.setIfInBounds_toArray, List.set_cons_zero, List.set_cons_succ, i64_w, i32_w]
                    rfl
                   refine one_ (i := 4) (N := some 85) q8_28 rfl rfl (one_of HT_.out (by kernel_rfl)) (by decide) (fun K hK => ?_)
                   refine goes_ Try.func27 (by kernel_rfl) rfl #[.agg #[.int .i64 e5, .int .i64 e6, .slice d6 c5.length d3], .slice n0 y135.length l3] (by first | rfl | (simp [Region.wanted, yielded, *]; done)) rfl rfl (by (try simp only [List.map_toArray, List.map_cons, List.map_nil]); first | done | rfl | (simp only [List.length_drop, List.length_take]; rfl)) ?_
                   with_reducible refine (impl_OpsDo.calls e5 e6 _ _ c5 _ _ y135 k5 k6 e7 true _ ?side1 ?side2 ?side3 ?side4 A73.out).mono ?_
                   (case side1 => repeat (first | exact (ybh a1.out).2.2 | (with_reducible refine ybc ?_ _) | (with_reducible refine ybd ?_ _) | (with_reducible refine ybj ?_)))
                   (case side2 => exact (ybh a1.out).2.1)
                   (case side3 => repeat (first | exact (by repeat (first | (with_reducible exact HR138.out) | (with_reducible refine ybc ?_ _) | (with_reducible refine ybd ?_ _) | (with_reducible refine ybj ?_) | exact HR138.out)) | (with_reducible refine ybc ?_ _) | (with_reducible refine ybd ?_ _) | (with_reducible refine ybj ?_)))
                   (case side4 => exact HC138.out)
                   rintro e w91 ⟨p6, rfl, ho0, hb⟩; refine ⟨_, rfl, ?_⟩; have n0_ := yaa (yah (upR a9.out) hb); have n1_ := yaa (yav (upQ a1.out) (ybb ho0) hb); have n2_ := yaa (yav (upQ a2.out) (ybb ho0) hb); have n3_ := yaa (yav (upQ a4.out) (ybb ho0) hb); have n4_ := yaa (yav (upQ a3.out) (ybb ho0) hb)
                   have n5_ := yaa (Kd.R_lower (yba (yba (yba (yba ho0 (ybm (upQ a1.out))) (ybm (upQ a2.out))) (ybm (upQ a4.out))) (ybm (upQ a3.out))) (ybf (by repeat (with_reducible first | exact HB.out | apply yae | apply yab | apply yad | refine yal ?_ (Aside0.out ‹_›)))))
                   have n6_ := yaa (yac (upB a5.out) hb); have n7_ := yaa (yac (upB a6.out) hb); have n8_ := yaa (yac (upB a8.out) hb); have n9_ := yaa (yac (upB a7.out) hb)
                   have e8 := yaa (Kd.C_below (by repeat (first | (with_reducible exact HR138.out) | (with_reducible refine ybc ?_ _) | (with_reducible refine ybd ?_ _) | (with_reducible refine ybj ?_) | exact HR138.out)) hb)
                   have e9 := yaa (yac (upB b7.out) hb)
                   have g6 := yaa (ybg (by repeat (with_reducible first | exact HB.out | apply yae | apply yab | apply yad | refine yal ?_ (Aside0.out ‹_›))) hb)
                   clear a9; clear a1; clear a2; clear a4; clear a3; clear a5; clear a6; clear a8; clear a7; clear HR138; clear b7; clear HB; have a9 := n0_; have a1 := n1_; have a2 := n2_; have a4 := n3_; have a3 := n4_; have d5 := n5_; have a5 := n6_; have a6 := n7_; have a8 := n8_; have a7 := n9_; have HR138 := e8; have b7 := e9; have HB := g6; clear n0_ n1_ n2_ n3_ n4_ n5_ n6_ n7_ n8_ n9_ e8 e9 g6; (try clear hb); (try clear hb2); (try clear hk); (try clear hi); (try clear ho0)
                   refine hK.out _ _ ⟨(yat a5.out 0).trans rfl, (yat a5.out 1).trans rfl, (yat a5.out 2).trans rfl⟩ (fun hHeld => ?_)
                   clear hK K
                   refine norm_ (a' := ?_) ?_ ?_
                   rotate_left
                   ·
                    show Act.put _ (some 85) _ = _
                    simp only [Act.put, List.setIfInBounds_toArray, List.set_cons_zero, List.set_cons_succ, i64_w, i32_w]
                    rfl
                   refine pz_ 5 80 q8_29 HT_ (by kernel_rfl) ?_
                   refine pz_ 6 86 q8_30 HT_ (by kernel_rfl) ?_
                   refine pz_ 7 87 q8_22 HT_ (by kernel_rfl) ?_
                   exact norm_ (by simp only [putAll, Act.put, List.setIfInBounds_toArray, List.set_cons_zero, List.set_cons_succ]) (hCont (p6, b0) _ ⟨hHeld, (by (with_reducible repeat (first | apply yaq | apply yar | apply yas)); exact yau d5.out (fun _ hk => by grind)), (by (with_reducible repeat (first | apply yam | apply yan | apply yak)); exact yao a1.out (fun _ hk => by grind)), (by (with_reducible repeat (first | apply yam | apply yan | apply yak)); exact yao a2.out (fun _ hk => by grind)), (by (with_reducible repeat (first | apply yam | apply yan | apply yak)); exact yao a4.out (fun _ hk => by grind)), (by (with_reducible repeat (first | apply yam | apply yan | apply yak)); exact yao a3.out (fun _ hk => by grind)), (upR a9.out), (upB a5.out), (upB a6.out), (upB a8.out), (upB a7.out), (upB b7.out), v6.out, v7.out, e0.out, i6.out, f5.out, i7.out, f9.out, j7.out, f6.out, i8.out, (by repeat (with_reducible first | exact HB.out | apply yae | apply yab | apply yad | refine yal ?_ (Aside0.out ‹_›)))⟩)
                 rintro ⟨p6, b0⟩ w92 ⟨hS_, h0_, h1_, h2_, h3_, h4_, h5_, h6_, h7_, h8_, h9_, h10_, h11_, h12_, h13_, h14_, h15_, h16_, h17_, h18_, h19_, h20_, h21_⟩; have n0_ : yap (Kd.R k36 36 w92 w.heap.size (fun k_ => some k_ ≠ (.slice d6 c5.length d3 : Value).ownBlock ∧ some k_ ≠ (.slice e1 c6.length d7 : Value).ownBlock ∧ some k_ ≠ (.slice d8 d0.length d4 : Value).ownBlock ∧ some k_ ≠ (u127002 : Value).ownBlock) p6 e7) := ⟨h0_⟩; have n1_ : yap (Kd.Q k36 36 w92 w.heap.size (fun k_ => some k_ ≠ (p6 : Value).ownBlock ∧ some k_ ≠ (.slice e1 c6.length d7 : Value).ownBlock ∧ some k_ ≠ (.slice d8 d0.length d4 : Value).ownBlock) (.slice d6 c5.length d3) c5) := ⟨h1_⟩; have n2_ : yap (Kd.Q k36 36 w92 w.heap.size (fun k_ => some k_ ≠ (p6 : Value).ownBlock ∧ some k_ ≠ (.slice d6 c5.length d3 : Value).ownBlock ∧ some k_ ≠ (.slice d8 d0.length d4 : Value).ownBlock ∧ some k_ ≠ (u127002 : Value).ownBlock) (.slice e1 c6.length d7) c6) := ⟨h2_⟩; have n3_ : yap (Kd.Q k36 36 w92 w.heap.size (fun k_ => some k_ ≠ (p6 : Value).ownBlock ∧ some k_ ≠ (.slice d6 c5.length d3 : Value).ownBlock ∧ some k_ ≠ (.slice e1 c6.length d7 : Value).ownBlock ∧ some k_ ≠ (u127002 : Value).ownBlock) (.slice d8 d0.length d4) d0) := ⟨h3_⟩; have n4_ : yap (Kd.Q k36 36 w92 w.heap.size (fun k_ => some k_ ≠ (p6 : Value).ownBlock ∧ some k_ ≠ (.slice e1 c6.length d7 : Value).ownBlock ∧ some k_ ≠ (.slice d8 d0.length d4 : Value).ownBlock) u127002 b1) := ⟨h4_⟩; have n5_ : yap (Kd.R k27 27 w92 w.heap.size (fun _ => True) (.slice n0 c9.length l3) c9) := ⟨h5_⟩; have n6_ : yap (w92.heap[b9]? = some (.cells #[.int .i64 e5, .int .i64 e6, .slice d6 c5.length d3] 25 (0, 0))) := ⟨h6_⟩; have n7_ : yap (w92.heap[c7]? = some (.cells #[.int .i64 g0, .int .i64 g1, .slice e1 c6.length d7] 25 (0, 0))) := ⟨h7_⟩; have n8_ : yap (w92.heap[b4]? = some (.cells #[.int .i64 g8, .int .i64 h7, .slice d8 d0.length d4] 25 (0, 0))) := ⟨h8_⟩; have n9_ : yap (w92.heap[b5]? = some (.cells #[.int .i64 d2, .int .i64 d1, u127002] 25 (0, 0))) := ⟨h9_⟩; have e8 : yap (w92.heap[b0]? = some (.cells #[.int .i64 0, .int .i64 0, .slice none 0 0] 25 (0, 0))) := ⟨h10_⟩; have e9 : yap (w.heap.size ≤ b0) := ⟨h11_⟩; have g6 : yap (w.heap.size ≤ b0) := ⟨h12_⟩; have h8 : yap (b9 ≠ b0) := ⟨h13_⟩; have j5 : yap (b0 ≠ b9) := ⟨h14_⟩; have j8 : yap (c7 ≠ b0) := ⟨h15_⟩; have j9 : yap (b0 ≠ c7) := ⟨h16_⟩; have k0 : yap (b4 ≠ b0) := ⟨h17_⟩; have k1 : yap (b0 ≠ b4) := ⟨h18_⟩; have k3 : yap (b5 ≠ b0) := ⟨h19_⟩; have k4 : yap (b0 ≠ b5) := ⟨h20_⟩; have l4 : yap (Below w.heap.size w w92) := ⟨h21_⟩; clear a9; clear a1; clear a2; clear a4; clear a3; clear a5; clear a6; clear a8; clear a7; clear HB; clear h0_ h1_ h2_ h3_ h4_ h5_ h6_ h7_ h8_ h9_ h10_ h11_ h12_ h13_ h14_ h15_ h16_ h17_ h18_ h19_ h20_ h21_; have d5 := n0_; have a1 := n1_; have a2 := n2_; have a4 := n3_; have a3 := n4_; have a9 := n5_; have a5 := n6_; have a6 := n7_; have a8 := n8_; have a7 := n9_; have b7 := e8; have v6 := e9; have v7 := g6; have e0 := h8; have i6 := j5; have f5 := j8; have i7 := j9; have f9 := k0; have j7 := k1; have f6 := k3; have i8 := k4; have HB := l4; clear n0_ n1_ n2_ n3_ n4_ n5_ n6_ n7_ n8_ n9_ e8 e9 g6 h8 j5 j8 j9 k0 k1 k3 k4 l4; have hHeld : w92.cell? ⟨b9, 0, none⟩ = some (.int .i64 e5) ∧ w92.cell? ⟨b9, 1, none⟩ = some (.int .i64 e6) ∧ w92.cell? ⟨b9, 2, none⟩ = some (.slice d6 c5.length d3) := hS_; obtain ⟨g2, g3, C9⟩ := Kd.R_slice d5.out
                 (first | subst C9 | (injection C9 with f1_ f2_ f3_; have f4_ := f1_.symm; have f5_ := f3_.symm; clear f1_ f2_ f3_; subst f4_; subst f5_))
                 refine norm_ (a' := ?_) ?_ ?_
                 rotate_left
                 ·
                  simp only [putAll, Act.put, List.setIfInBounds_toArray, List.set_cons_zero, List.set_cons_succ]
                  rfl
                 refine one_ (i := 9) (N := none) q8_31 rfl rfl (one_of HT_.out (by kernel_rfl)) (by decide) (fun K hK => ?_)
                 have cD : w92.cell? ⟨b0, 0, none⟩ = some (.int .i64 0) := (yat b7.out 0).trans rfl; have bP := blk_frozen b7.out 0; have Q4 := e0.out; have Q5 := f5.out; have Q6 := f9.out; have Q7 := f6.out; have Q8 := i6.out; have Q9 := i7.out; have R0 := j7.out; have R1 := i8.out; have cE : w92.cell? ⟨b0, 1, none⟩ = some (.int .i64 0) := (yat b7.out 1).trans rfl; have bQ := blk_frozen b7.out 1; have R2 := e0.out; have R3 := f5.out; have R4 := f9.out; have R5 := f6.out; have R6 := i6.out; have R7 := i7.out; have R8 := j7.out; have R9 := i8.out; have cF : w92.cell? ⟨b0, 2, none⟩ = some (.slice none 0 0) := (yat b7.out 2).trans rfl; have bR := blk_frozen b7.out 2; have S0 := e0.out; have S1 := f5.out; have S2 := f9.out; have S3 := f6.out; have S4 := i6.out; have S5 := i7.out; have S6 := j7.out; have S7 := i8.out
                 refine skip_ (w1 := ?_) (by rfl) rfl ?_ ?_
                 rotate_left
                 ·
                  go_simp
                  rfl
                 refine hK.out _ _ ⟨((ybe (p := ⟨b0, _, none⟩) e0.out _).trans (((ybe (p := ⟨b0, _, none⟩) e0.out _).trans (((ybe (p := ⟨b0, _, none⟩) e0.out _).trans (hHeld.1)))))), ((ybe (p := ⟨b0, _, none⟩) e0.out _).trans (((ybe (p := ⟨b0, _, none⟩) e0.out _).trans (((ybe (p := ⟨b0, _, none⟩) e0.out _).trans (hHeld.2.1)))))), ((ybe (p := ⟨b0, _, none⟩) e0.out _).trans (((ybe (p := ⟨b0, _, none⟩) e0.out _).trans (((ybe (p := ⟨b0, _, none⟩) e0.out _).trans (hHeld.2.2))))))⟩ (fun hHeld => ?_)
                 clear hK K
                 refine pz_ 10 15 q8_32 HT_ (by kernel_rfl) ?_
                 refine done_ (done_of HT_.out (by kernel_rfl)) ?_
                 try go_wp2
                 generalize hg_ : (((w92.setCell ⟨b0, 0, none⟩ (.int .i64 k5)).setCell ⟨b0, 1, none⟩ (.int .i64 k6)).setCell ⟨b0, 2, none⟩ (.slice g2 e7.length g3)) = w97
                 replace a9 : yap (Kd.R k27 27 w97 w.heap.size (fun _ => True) (.slice n0 c9.length l3) c9) := ⟨by subst hg_; (with_reducible repeat (first | apply yaq | apply yar | apply yas)); exact yau (yag (p := ⟨b0, 2, none⟩) (yag (p := ⟨b0, 1, none⟩) (yag (p := ⟨b0, 0, none⟩) (yay a9.out b7.out (by decide)) (fun _ hk => hk.2) (.int .i64 k5)) (fun _ hk => hk.2) (.int .i64 k6)) (fun _ hk => hk.2) (.slice g2 e7.length g3)) (fun _ hk => trivial)⟩
                 replace a1 : yap (Kd.Q k36 36 w97 w.heap.size (fun k_ => some k_ ≠ (.slice e1 c6.length d7 : Value).ownBlock ∧ some k_ ≠ (.slice d8 d0.length d4 : Value).ownBlock ∧ some k_ ≠ (.slice g2 e7.length g3 : Value).ownBlock) (.slice d6 c5.length d3) c5) := ⟨by subst hg_; (with_reducible repeat (first | apply yam | apply yan | apply yak)); exact yao (yaf (p := ⟨b0, 2, none⟩) (yaf (p := ⟨b0, 1, none⟩) (yaf (p := ⟨b0, 0, none⟩) (yax a1.out b7.out (by decide)) (fun _ hk => hk.2) (.int .i64 k5)) (fun _ hk => hk.2) (.int .i64 k6)) (fun _ hk => hk.2) (.slice g2 e7.length g3)) (fun _ hk => by grind)⟩
                 replace a2 : yap (Kd.Q k36 36 w97 w.heap.size (fun k_ => some k_ ≠ (.slice d6 c5.length d3 : Value).ownBlock ∧ some k_ ≠ (.slice d8 d0.length d4 : Value).ownBlock ∧ some k_ ≠ (u127002 : Value).ownBlock ∧ some k_ ≠ (.slice g2 e7.length g3 : Value).ownBlock) (.slice e1 c6.length d7) c6) := ⟨by subst hg_; (with_reducible repeat (first | apply yam | apply yan | apply yak)); exact yao (yaf (p := ⟨b0, 2, none⟩) (yaf (p := ⟨b0, 1, none⟩) (yaf (p := ⟨b0, 0, none⟩) (yax a2.out b7.out (by decide)) (fun _ hk => hk.2) (.int .i64 k5)) (fun _ hk => hk.2) (.int .i64 k6)) (fun _ hk => hk.2) (.slice g2 e7.length g3)) (fun _ hk => by grind)⟩
                 replace a4 : yap (Kd.Q k36 36 w97 w.heap.size (fun k_ => some k_ ≠ (.slice d6 c5.length d3 : Value).ownBlock ∧ some k_ ≠ (.slice e1 c6.length d7 : Value).ownBlock ∧ some k_ ≠ (u127002 : Value).ownBlock ∧ some k_ ≠ (.slice g2 e7.length g3 : Value).ownBlock) (.slice d8 d0.length d4) d0) := ⟨by subst hg_; (with_reducible repeat (first | apply yam | apply yan | apply yak)); exact yao (yaf (p := ⟨b0, 2, none⟩) (yaf (p := ⟨b0, 1, none⟩) (yaf (p := ⟨b0, 0, none⟩) (yax a4.out b7.out (by decide)) (fun _ hk => hk.2) (.int .i64 k5)) (fun _ hk => hk.2) (.int .i64 k6)) (fun _ hk => hk.2) (.slice g2 e7.length g3)) (fun _ hk => by grind)⟩
                 replace a3 : yap (Kd.Q k36 36 w97 w.heap.size (fun k_ => some k_ ≠ (.slice e1 c6.length d7 : Value).ownBlock ∧ some k_ ≠ (.slice d8 d0.length d4 : Value).ownBlock ∧ some k_ ≠ (.slice g2 e7.length g3 : Value).ownBlock) u127002 b1) := ⟨by subst hg_; (with_reducible repeat (first | apply yam | apply yan | apply yak)); exact yao (yaf (p := ⟨b0, 2, none⟩) (yaf (p := ⟨b0, 1, none⟩) (yaf (p := ⟨b0, 0, none⟩) (yax a3.out b7.out (by decide)) (fun _ hk => hk.2) (.int .i64 k5)) (fun _ hk => hk.2) (.int .i64 k6)) (fun _ hk => hk.2) (.slice g2 e7.length g3)) (fun _ hk => by grind)⟩
                 replace d5 : yap (Kd.R k36 36 w97 w.heap.size (fun k_ => some k_ ≠ (.slice d6 c5.length d3 : Value).ownBlock ∧ some k_ ≠ (.slice e1 c6.length d7 : Value).ownBlock ∧ some k_ ≠ (.slice d8 d0.length d4 : Value).ownBlock ∧ some k_ ≠ (u127002 : Value).ownBlock) (.slice g2 e7.length g3) e7) := ⟨by subst hg_; (with_reducible repeat (first | apply yaq | apply yar | apply yas)); exact yau (yag (p := ⟨b0, 2, none⟩) (yag (p := ⟨b0, 1, none⟩) (yag (p := ⟨b0, 0, none⟩) (yay d5.out b7.out (by decide)) (fun _ hk => hk.2) (.int .i64 k5)) (fun _ hk => hk.2) (.int .i64 k6)) (fun _ hk => hk.2) (.slice g2 e7.length g3)) (fun _ hk => by grind)⟩
                 replace a5 : yap (w97.heap[b9]? = some (.cells #[.int .i64 e5, .int .i64 e6, .slice d6 c5.length d3] 25 (0, 0))) := ⟨by subst hg_; (repeat refine oneB ?_); refine ybl ?_ e0.out _; (repeat refine oneB ?_); refine ybl ?_ e0.out _; (repeat refine oneB ?_); refine ybl ?_ e0.out _; exact upB a5.out⟩; replace a6 : yap (w97.heap[c7]? = some (.cells #[.int .i64 g0, .int .i64 g1, .slice e1 c6.length d7] 25 (0, 0))) := ⟨by subst hg_; (repeat refine oneB ?_); refine ybl ?_ f5.out _; (repeat refine oneB ?_); refine ybl ?_ f5.out _; (repeat refine oneB ?_); refine ybl ?_ f5.out _; exact upB a6.out⟩; replace a8 : yap (w97.heap[b4]? = some (.cells #[.int .i64 g8, .int .i64 h7, .slice d8 d0.length d4] 25 (0, 0))) := ⟨by subst hg_; (repeat refine oneB ?_); refine ybl ?_ f9.out _; (repeat refine oneB ?_); refine ybl ?_ f9.out _; (repeat refine oneB ?_); refine ybl ?_ f9.out _; exact upB a8.out⟩; replace a7 : yap (w97.heap[b5]? = some (.cells #[.int .i64 d2, .int .i64 d1, u127002] 25 (0, 0))) := ⟨by subst hg_; (repeat refine oneB ?_); refine ybl ?_ f6.out _; (repeat refine oneB ?_); refine ybl ?_ f6.out _; (repeat refine oneB ?_); refine ybl ?_ f6.out _; exact upB a7.out⟩; replace b7 : yap (w97.heap[b0]? = some (.cells #[.int .i64 k5, .int .i64 k6, .slice g2 e7.length g3] 25 (0, 0))) := ⟨by subst hg_; (repeat refine oneB ?_); refine ybn (cs := #[.int .i64 k5, .int .i64 k6, .slice none 0 0]) ?_ 2 _ rfl; refine ybn (cs := #[.int .i64 k5, .int .i64 0, .slice none 0 0]) ?_ 1 _ rfl; refine ybn (cs := #[.int .i64 0, .int .i64 0, .slice none 0 0]) ?_ 0 _ rfl; exact upB b7.out⟩
                 replace HB : yap (Below w.heap.size w w97) := ⟨by subst hg_; repeat (with_reducible first | exact HB.out | apply yae | apply yab | apply yad | refine yal ?_ (Aside0.out ‹_›))⟩
                 clear hg_; replace a9 := yaa (yas a9.out); replace a1 := yaa (yak a1.out); replace a2 := yaa (yak a2.out); replace a4 := yaa (yak a4.out); replace a3 := yaa (yak a3.out); replace d5 := yaa (yas d5.out); replace a5 := yaa (blk_drew a5.out); replace a6 := yaa (blk_drew a6.out); replace a8 := yaa (blk_drew a8.out); replace a7 := yaa (blk_drew a7.out); replace b7 := yaa (blk_drew b7.out); replace HB := yaa (yad HB.out); have q99 : ((ji70) : Int) ≤ ((c9.length : Int) : Int) := of_decide_eq_true (by assumption); obtain ⟨i099, hi099, _, B0, _⟩ := info_parts info27; have hroom99 : c9.length ≤ l3 := (yaz a9.out).2.1; have hC99 : Kd.C k27 _ n0 c9.length c9 := (yaz a9.out).2.2; have q099 : (0 : Int) ≤ ((ji70) : Int) := of_decide_eq_true (by assumption); have hcut99 := cut_from (P := Try.prog) 51 27 .i64 Try.underlying51 hi099 5 B0 n0 c9.length l3 (ji70) q099 q99; have hr99 := Kd.C_drop (m := ((ji70) : Int).toNat) (c := l3) hC99 (by omega) hroom99
                 obtain ⟨A99, hA99⟩ : ∃ A1, A1 = (if l3 = ((ji70) : Int).toNat then n0 else (n0 : Option Addr).map (·.add (((ji70) : Int).toNat * 5))) := ⟨_, rfl⟩
                 obtain ⟨c99, hc99⟩ : ∃ c1, c1 = l3 - ((ji70) : Int).toNat := ⟨_, rfl⟩; have hy99 : y146.length = c9.length - ((ji70) : Int).toNat := (by rw [Ny146.out, List.length_drop] <;> omega)
                 rw [show (c9).drop ((ji70) : Int).toNat = y146 from Ny146.out.symm] at hr99
                 replace hr99 : Kd.C k27 _ A99 y146.length y146 := (by rw [hA99]; exact hr99)
                 rw [← hy99, ← hA99, ← hc99] at hcut99
                 have HR149 := yaa hr99; have HC149 := yaa (show y146.length ≤ c99 from by rw [hy99, hc99]; exact Nat.sub_le_sub_right hroom99 _); clear hr99 hC99 hroom99 hi099 B0 hc99; have KY99 := yaa hy99; have KA99 := yaa hA99; clear hy99 hA99; have KL99 := yaa (show ((ji70) : Int).toNat ≤ c9.length from by omega); replace q99 := eq_true q99
                 refine start_ (n := 11) (S := fun w' => w'.cell? ⟨b0, 0, none⟩ = some (.int .i64 k5) ∧ w'.cell? ⟨b0, 1, none⟩ = some (.int .i64 k6) ∧ w'.cell? ⟨b0, 2, none⟩ = some (.slice g2 e7.length g3)) (ds := []) q8_17 (by kernel_rfl) rfl rfl ⟨(yat b7.out 0).trans rfl, (yat b7.out 1).trans rfl, (yat b7.out 2).trans rfl⟩ (fun hHeld => ?_); refine with_tabW laws_FnOpsDo.tab20 laws_FnOpsDo.bits20 (fun HT_ HW_ => ?_)
                 generalize w97.drew = w98 at a9 a1 a2 a4 a3 d5 a5 a6 a8 a7 b7 HB HR149 hHeld ⊢
                 refine pz_ 1 90 q8_18 HT_ (by kernel_rfl) ?_
                 refine pz_ 2 91 q8_19 HT_ (by kernel_rfl) ?_
                 refine pz_ 3 92 q8_20 HT_ (by kernel_rfl) ?_
                 refine tz_ 0 89 q8_21 HT_ HW_ (by kernel_rfl) hHeld ?_
                 refine join_ (σ := Value × Nat) 2 q8_22 (fun s_ => [(93, .tuple #[.agg #[.int .i64 m9, .int .i64 n2, s_.1], .bool true]), (16, .pointer (some ⟨s_.2, 0, none⟩)), (88, .tuple #[.agg #[.int .i64 m9, .int .i64 n2, s_.1], .bool true]), (94, .agg #[.int .i64 m9, .int .i64 n2, s_.1]), (95, .bool true)]) (fun s_ w' => (w'.cell? ⟨b0, 0, none⟩ = some (.int .i64 k5) ∧ w'.cell? ⟨b0, 1, none⟩ = some (.int .i64 k6) ∧ w'.cell? ⟨b0, 2, none⟩ = some (.slice g2 e7.length g3)) ∧ (Kd.R k36 36 w' w.heap.size (fun k_ => some k_ ≠ (s_.1 : Value).ownBlock ∧ some k_ ≠ (.slice d6 c5.length d3 : Value).ownBlock ∧ some k_ ≠ (.slice e1 c6.length d7 : Value).ownBlock ∧ some k_ ≠ (.slice d8 d0.length d4 : Value).ownBlock ∧ some k_ ≠ (u127002 : Value).ownBlock) (.slice g2 e7.length g3) e7) ∧ (Kd.R k36 36 w' w.heap.size (fun k_ => some k_ ≠ (.slice g2 e7.length g3 : Value).ownBlock ∧ some k_ ≠ (.slice d6 c5.length d3 : Value).ownBlock ∧ some k_ ≠ (.slice e1 c6.length d7 : Value).ownBlock ∧ some k_ ≠ (.slice d8 d0.length d4 : Value).ownBlock ∧ some k_ ≠ (u127002 : Value).ownBlock) s_.1 n3) ∧ (Kd.Q k36 36 w' w.heap.size (fun k_ => some k_ ≠ (.slice g2 e7.length g3 : Value).ownBlock ∧ some k_ ≠ (s_.1 : Value).ownBlock ∧ some k_ ≠ (.slice e1 c6.length d7 : Value).ownBlock ∧ some k_ ≠ (.slice d8 d0.length d4 : Value).ownBlock) (.slice d6 c5.length d3) c5) ∧ (Kd.Q k36 36 w' w.heap.size (fun k_ => some k_ ≠ (.slice g2 e7.length g3 : Value).ownBlock ∧ some k_ ≠ (s_.1 : Value).ownBlock ∧ some k_ ≠ (.slice d6 c5.length d3 : Value).ownBlock ∧ some k_ ≠ (.slice d8 d0.length d4 : Value).ownBlock ∧ some k_ ≠ (u127002 : Value).ownBlock) (.slice e1 c6.length d7) c6) ∧ (Kd.Q k36 36 w' w.heap.size (fun k_ => some k_ ≠ (.slice g2 e7.length g3 : Value).ownBlock ∧ some k_ ≠ (s_.1 : Value).ownBlock ∧ some k_ ≠ (.slice d6 c5.length d3 : Value).ownBlock ∧ some k_ ≠ (.slice e1 c6.length d7 : Value).ownBlock ∧ some k_ ≠ (u127002 : Value).ownBlock) (.slice d8 d0.length d4) d0) ∧ (Kd.Q k36 36 w' w.heap.size (fun k_ => some k_ ≠ (.slice g2 e7.length g3 : Value).ownBlock ∧ some k_ ≠ (s_.1 : Value).ownBlock ∧ some k_ ≠ (.slice e1 c6.length d7 : Value).ownBlock ∧ some k_ ≠ (.slice d8 d0.length d4 : Value).ownBlock) u127002 b1) ∧ (Kd.R k27 27 w' w.heap.size (fun _ => True) (.slice n0 c9.length l3) c9) ∧ (w'.heap[b9]? = some (.cells #[.int .i64 e5, .int .i64 e6, .slice d6 c5.length d3] 25 (0, 0))) ∧ (w'.heap[c7]? = some (.cells #[.int .i64 g0, .int .i64 g1, .slice e1 c6.length d7] 25 (0, 0))) ∧ (w'.heap[b4]? = some (.cells #[.int .i64 g8, .int .i64 h7, .slice d8 d0.length d4] 25 (0, 0))) ∧ (w'.heap[b5]? = some (.cells #[.int .i64 d2, .int .i64 d1, u127002] 25 (0, 0))) ∧ (w'.heap[b0]? = some (.cells #[.int .i64 k5, .int .i64 k6, .slice g2 e7.length g3] 25 (0, 0))) ∧ (w'.heap[s_.2]? = some (.cells #[.int .i64 0, .int .i64 0, .slice none 0 0] 25 (0, 0))) ∧ (w.heap.size ≤ s_.2) ∧ (w.heap.size ≤ s_.2) ∧ (b9 ≠ s_.2) ∧ (s_.2 ≠ b9) ∧ (c7 ≠ s_.2) ∧ (s_.2 ≠ c7) ∧ (b4 ≠ s_.2) ∧ (s_.2 ≠ b4) ∧ (b5 ≠ s_.2) ∧ (s_.2 ≠ b5) ∧ (b0 ≠ s_.2) ∧ (s_.2 ≠ b0) ∧ (Below w.heap.size w w')) ?_ ?_
                 rotate_left
                 ·
                  intro hCont
                  refine two_ (i := 4) (j := 8) (Ni := some 93) (Nj := some 16) q8_23 q8_24 rfl rfl rfl rfl (two_of HT_.out (by kernel_rfl)) (by decide) (by decide) (fun K hK => ?_) (fun K hK => ?_)
                  ·
                   skip
                   refine goes_ Try.func27 (by kernel_rfl) rfl #[.agg #[.int .i64 k5, .int .i64 k6, .slice g2 e7.length g3], .slice A99 y146.length c99] (by first | rfl | (simp [Region.wanted, yielded, *]; done)) rfl rfl (by (try simp only [List.map_toArray, List.map_cons, List.map_nil]); first | done | rfl | (simp only [List.length_drop, List.length_take]; rfl)) ?_
                   with_reducible refine (impl_OpsDo.calls k5 k6 _ _ e7 _ _ y146 m9 n2 n3 true _ ?side1 ?side2 ?side3 ?side4 A76.out).mono ?_
                   (case side1 => repeat (first | exact (yaz d5.out).2.2 | (with_reducible refine ybc ?_ _) | (with_reducible refine ybd ?_ _) | (with_reducible refine ybj ?_)))
                   (case side2 => exact (yaz d5.out).2.1)
                   (case side3 => repeat (first | exact (by repeat (first | (with_reducible exact HR149.out) | (with_reducible refine ybc ?_ _) | (with_reducible refine ybd ?_ _) | (with_reducible refine ybj ?_) | exact HR149.out)) | (with_reducible refine ybc ?_ _) | (with_reducible refine ybd ?_ _) | (with_reducible refine ybj ?_)))
                   (case side4 => exact HC149.out)
                   rintro e w100 ⟨p3, rfl, ho0, hb⟩; refine ⟨_, rfl, ?_⟩; have n0_ := yaa (yah (upR a9.out) hb); have n1_ := yaa (yav (upQ a1.out) (ybb ho0) hb); have n2_ := yaa (yav (upQ a2.out) (ybb ho0) hb); have n3_ := yaa (yav (upQ a4.out) (ybb ho0) hb); have n4_ := yaa (yav (upQ a3.out) (ybb ho0) hb); have n5_ := yaa (Kd.R_elder' (upR d5.out) (ybb ho0) hb)
                   have n6_ := yaa (Kd.R_lower (yba (yba (yba (yba (yba ho0 (ybm (upQ a1.out))) (ybm (upQ a2.out))) (ybm (upQ a4.out))) (ybm (upQ a3.out))) (Kd.R_lt (upR d5.out))) (ybf (by repeat (with_reducible first | exact HB.out | apply yae | apply yab | apply yad | refine yal ?_ (Aside0.out ‹_›)))))
                   have n7_ := yaa (yac (upB a5.out) hb); have n8_ := yaa (yac (upB a6.out) hb); have n9_ := yaa (yac (upB a8.out) hb); have e8 := yaa (yac (upB a7.out) hb); have e9 := yaa (yac (upB b7.out) hb)
                   have g6 := yaa (Kd.C_below (by repeat (first | (with_reducible exact HR149.out) | (with_reducible refine ybc ?_ _) | (with_reducible refine ybd ?_ _) | (with_reducible refine ybj ?_) | exact HR149.out)) hb)
                   have h8 := yaa (ybg (by repeat (with_reducible first | exact HB.out | apply yae | apply yab | apply yad | refine yal ?_ (Aside0.out ‹_›))) hb)
                   clear a9; clear a1; clear a2; clear a4; clear a3; clear d5; clear a5; clear a6; clear a8; clear a7; clear b7; clear HR149; clear HB; have a9 := n0_; have a1 := n1_; have a2 := n2_; have a4 := n3_; have a3 := n4_; have d5 := n5_; have f7 := n6_; have a5 := n7_; have a6 := n8_; have a8 := n9_; have a7 := e8; have b7 := e9; have HR149 := g6; have HB := h8; clear n0_ n1_ n2_ n3_ n4_ n5_ n6_ n7_ n8_ n9_ e8 e9 g6 h8; (try clear hb); (try clear hb2); (try clear hk); (try clear hi); (try clear ho0)
                   refine hK.out _ _ ⟨(yat b7.out 0).trans rfl, (yat b7.out 1).trans rfl, (yat b7.out 2).trans rfl⟩ (fun hHeld => ?_)
                   clear hK K
                   refine norm_ (a' := ?_) ?_ ?_
                   rotate_left
                   ·
                    show Act.put _ (some 93) _ = _
                    simp only [Act.put, List.setIfInBounds_toArray, List.set_cons_zero, List.set_cons_succ, i64_w, i32_w]
                    rfl
                   refine pz_ 5 88 q8_25 HT_ (by kernel_rfl) ?_
                   refine pz_ 6 94 q8_26 HT_ (by kernel_rfl) ?_
                   refine pz_ 7 95 q8_27 HT_ (by kernel_rfl) ?_
                   refine one_ (i := 8) (N := some 16) q8_22 rfl rfl (one_of HT_.out (by kernel_rfl)) (by decide) (fun K hK => ?_)
                   refine box_step ?hg (N := 16) ?hd (cs := #[.int .i64 0, .int .i64 0, .slice none 0 0]) (t := 25) ?hr ?_; (case hd => rfl); (case hg => first | rfl | (simp [Region.wanted, yielded, *]; done)); (case hr => first | (go_simp; done) | (go_simp; rfl))
                   intro b3 hg w101 hbox hb; have n0_ := yaa (yah (upR a9.out) hb); have n1_ := yaa (yaj (upQ a1.out) hb); have n2_ := yaa (yaj (upQ a2.out) hb); have n3_ := yaa (yaj (upQ a4.out) hb); have n4_ := yaa (yaj (upQ a3.out) hb); have n5_ := yaa (yah (upR d5.out) hb); have n6_ := yaa (yah (upR f7.out) hb); have n7_ := yaa (yac (upB a5.out) hb); have n8_ := yaa (yac (upB a6.out) hb); have n9_ := yaa (yac (upB a8.out) hb); have e8 := yaa (yac (upB a7.out) hb); have e9 := yaa (yac (upB b7.out) hb)
                   have g6 := yaa (Kd.C_below (by repeat (first | (with_reducible exact HR149.out) | (with_reducible refine ybc ?_ _) | (with_reducible refine ybd ?_ _) | (with_reducible refine ybj ?_) | exact HR149.out)) hb)
                   have h8 := yaa (ybg (by repeat (with_reducible first | exact HB.out | apply yae | apply yab | apply yad | refine yal ?_ (Aside0.out ‹_›))) hb)
                   have j5 := yaa (hbox)
                   have j8 := yaa ((by rw [hg]; exact (ybf (by repeat (with_reducible first | exact HB.out | apply yae | apply yab | apply yad | refine yal ?_ (Aside0.out ‹_›)))) : w.heap.size ≤ b3))
                   have j9 := yaa ((by rw [hg]; exact (ybf (by repeat (with_reducible first | exact HB.out | apply yae | apply yab | apply yad | refine yal ?_ (Aside0.out ‹_›)))) : w.heap.size ≤ b3))
                   have k0 := yaa ((by rw [hg]; exact Nat.ne_of_lt (ybi (upB a5.out)) : b9 ≠ b3)); have k1 := yaa ((by rw [hg]; exact Nat.ne_of_gt (ybi (upB a5.out)) : b3 ≠ b9)); have k3 := yaa ((by rw [hg]; exact Nat.ne_of_lt (ybi (upB a6.out)) : c7 ≠ b3)); have k4 := yaa ((by rw [hg]; exact Nat.ne_of_gt (ybi (upB a6.out)) : b3 ≠ c7)); have l4 := yaa ((by rw [hg]; exact Nat.ne_of_lt (ybi (upB a8.out)) : b4 ≠ b3)); have p1 := yaa ((by rw [hg]; exact Nat.ne_of_gt (ybi (upB a8.out)) : b3 ≠ b4)); have p7 := yaa ((by rw [hg]; exact Nat.ne_of_lt (ybi (upB a7.out)) : b5 ≠ b3)); have p8 := yaa ((by rw [hg]; exact Nat.ne_of_gt (ybi (upB a7.out)) : b3 ≠ b5)); have p9 := yaa ((by rw [hg]; exact Nat.ne_of_lt (ybi (upB b7.out)) : b0 ≠ b3)); have D0 := yaa ((by rw [hg]; exact Nat.ne_of_gt (ybi (upB b7.out)) : b3 ≠ b0)); clear a9; clear a1; clear a2; clear a4; clear a3; clear d5; clear f7; clear a5; clear a6; clear a8; clear a7; clear b7; clear HR149; clear HB; have a9 := n0_; have a1 := n1_; have a2 := n2_; have a4 := n3_; have a3 := n4_; have d5 := n5_; have f7 := n6_; have a5 := n7_; have a6 := n8_; have a8 := n9_; have a7 := e8; have b7 := e9; have HR149 := g6; have HB := h8; have e4 := j5; have v8 := j8; have v9 := j9; have h3 := k0; have i9 := k1; have h4 := k3; have j1 := k4; have h5 := l4; have j2 := p1; have h6 := p7; have j3 := p8; have e2 := p9; have j4 := D0; clear n0_ n1_ n2_ n3_ n4_ n5_ n6_ n7_ n8_ n9_ e8 e9 g6 h8 j5 j8 j9 k0 k1 k3 k4 l4 p1 p7 p8 p9 D0; clear hb hbox hg
                   refine hK.out _ _ ⟨(yat b7.out 0).trans rfl, (yat b7.out 1).trans rfl, (yat b7.out 2).trans rfl⟩ (fun hHeld => ?_)
                   clear hK K
                   refine norm_ (a' := ?_) ?_ ?_
                   rotate_left
                   ·
                    show Act.put _ (some 16) _ = _
                    simp only [Act.put, List.setIfInBounds_toArray, List.set_cons_zero, List.set_cons_succ, i64_w, i32_w]
                    rfl
                   exact norm_ (by simp only [putAll, Act.put, List.setIfInBounds_toArray, List.set_cons_zero, List.set_cons_succ]) (hCont (p3, b3) _ ⟨hHeld, (by (with_reducible repeat (first | apply yaq | apply yar | apply yas)); exact yau d5.out (fun _ hk => by grind)), (by (with_reducible repeat (first | apply yaq | apply yar | apply yas)); exact yau f7.out (fun _ hk => by grind)), (by (with_reducible repeat (first | apply yam | apply yan | apply yak)); exact yao a1.out (fun _ hk => by grind)), (by (with_reducible repeat (first | apply yam | apply yan | apply yak)); exact yao a2.out (fun _ hk => by grind)), (by (with_reducible repeat (first | apply yam | apply yan | apply yak)); exact yao a4.out (fun _ hk => by grind)), (by (with_reducible repeat (first | apply yam | apply yan | apply yak)); exact yao a3.out (fun _ hk => by grind)), (upR a9.out), (upB a5.out), (upB a6.out), (upB a8.out), (upB a7.out), (upB b7.out), (upB e4.out), v8.out, v9.out, h3.out, i9.out, h4.out, j1.out, h5.out, j2.out, h6.out, j3.out, e2.out, j4.out, (by repeat (with_reducible first | exact HB.out | apply yae | apply yab | apply yad | refine yal ?_ (Aside0.out ‹_›)))⟩)
                  ·
                   skip
                   refine box_step ?hg (N := 16) ?hd (cs := #[.int .i64 0, .int .i64 0, .slice none 0 0]) (t := 25) ?hr ?_; (case hd => rfl); (case hg => first | rfl | (simp [Region.wanted, yielded, *]; done)); (case hr => first | (go_simp; done) | (go_simp; rfl))
                   intro b3 hg w100 hbox hb; have n0_ := yaa (yah (upR a9.out) hb); have n1_ := yaa (yaj (upQ a1.out) hb); have n2_ := yaa (yaj (upQ a2.out) hb); have n3_ := yaa (yaj (upQ a4.out) hb); have n4_ := yaa (yaj (upQ a3.out) hb); have n5_ := yaa (yah (upR d5.out) hb); have n6_ := yaa (yac (upB a5.out) hb); have n7_ := yaa (yac (upB a6.out) hb); have n8_ := yaa (yac (upB a8.out) hb); have n9_ := yaa (yac (upB a7.out) hb); have e8 := yaa (yac (upB b7.out) hb)
                   have e9 := yaa (Kd.C_below (by repeat (first | (with_reducible exact HR149.out) | (with_reducible refine ybc ?_ _) | (with_reducible refine ybd ?_ _) | (with_reducible refine ybj ?_) | exact HR149.out)) hb)
                   have g6 := yaa (ybg (by repeat (with_reducible first | exact HB.out | apply yae | apply yab | apply yad | refine yal ?_ (Aside0.out ‹_›))) hb)
                   have h8 := yaa (hbox)
                   have j5 := yaa ((by rw [hg]; exact (ybf (by repeat (with_reducible first | exact HB.out | apply yae | apply yab | apply yad | refine yal ?_ (Aside0.out ‹_›)))) : w.heap.size ≤ b3))
                   have j8 := yaa ((by rw [hg]; exact (ybf (by repeat (with_reducible first | exact HB.out | apply yae | apply yab | apply yad | refine yal ?_ (Aside0.out ‹_›)))) : w.heap.size ≤ b3))
                   have j9 := yaa ((by rw [hg]; exact Nat.ne_of_lt (ybi (upB a5.out)) : b9 ≠ b3)); have k0 := yaa ((by rw [hg]; exact Nat.ne_of_gt (ybi (upB a5.out)) : b3 ≠ b9)); have k1 := yaa ((by rw [hg]; exact Nat.ne_of_lt (ybi (upB a6.out)) : c7 ≠ b3)); have k3 := yaa ((by rw [hg]; exact Nat.ne_of_gt (ybi (upB a6.out)) : b3 ≠ c7)); have k4 := yaa ((by rw [hg]; exact Nat.ne_of_lt (ybi (upB a8.out)) : b4 ≠ b3)); have l4 := yaa ((by rw [hg]; exact Nat.ne_of_gt (ybi (upB a8.out)) : b3 ≠ b4)); have p1 := yaa ((by rw [hg]; exact Nat.ne_of_lt (ybi (upB a7.out)) : b5 ≠ b3)); have p7 := yaa ((by rw [hg]; exact Nat.ne_of_gt (ybi (upB a7.out)) : b3 ≠ b5)); have p8 := yaa ((by rw [hg]; exact Nat.ne_of_lt (ybi (upB b7.out)) : b0 ≠ b3)); have p9 := yaa ((by rw [hg]; exact Nat.ne_of_gt (ybi (upB b7.out)) : b3 ≠ b0)); clear a9; clear a1; clear a2; clear a4; clear a3; clear d5; clear a5; clear a6; clear a8; clear a7; clear b7; clear HR149; clear HB; have a9 := n0_; have a1 := n1_; have a2 := n2_; have a4 := n3_; have a3 := n4_; have d5 := n5_; have a5 := n6_; have a6 := n7_; have a8 := n8_; have a7 := n9_; have b7 := e8; have HR149 := e9; have HB := g6; have e4 := h8; have v8 := j5; have v9 := j8; have h3 := j9; have i9 := k0; have h4 := k1; have j1 := k3; have h5 := k4; have j2 := l4; have h6 := p1; have j3 := p7; have e2 := p8; have j4 := p9; clear n0_ n1_ n2_ n3_ n4_ n5_ n6_ n7_ n8_ n9_ e8 e9 g6 h8 j5 j8 j9 k0 k1 k3 k4 l4 p1 p7 p8 p9; clear hb hbox hg
                   refine hK.out _ _ ⟨(yat b7.out 0).trans rfl, (yat b7.out 1).trans rfl, (yat b7.out 2).trans rfl⟩ (fun hHeld => ?_)
                   clear hK K
                   refine norm_ (a' := ?_) ?_ ?_
                   rotate_left
                   ·
                    show Act.put _ (some 16) _ = _
                    simp only [Act.put, List.setIfInBounds_toArray, List.set_cons_zero, List.set_cons_succ, i64_w, i32_w]
                    rfl
                   refine one_ (i := 4) (N := some 93) q8_28 rfl rfl (one_of HT_.out (by kernel_rfl)) (by decide) (fun K hK => ?_)
                   refine goes_ Try.func27 (by kernel_rfl) rfl #[.agg #[.int .i64 k5, .int .i64 k6, .slice g2 e7.length g3], .slice A99 y146.length c99] (by first | rfl | (simp [Region.wanted, yielded, *]; done)) rfl rfl (by (try simp only [List.map_toArray, List.map_cons, List.map_nil]); first | done | rfl | (simp only [List.length_drop, List.length_take]; rfl)) ?_
                   with_reducible refine (impl_OpsDo.calls k5 k6 _ _ e7 _ _ y146 m9 n2 n3 true _ ?side1 ?side2 ?side3 ?side4 A76.out).mono ?_
                   (case side1 => repeat (first | exact (yaz d5.out).2.2 | (with_reducible refine ybc ?_ _) | (with_reducible refine ybd ?_ _) | (with_reducible refine ybj ?_)))
                   (case side2 => exact (yaz d5.out).2.1)
                   (case side3 => repeat (first | exact (by repeat (first | (with_reducible exact HR149.out) | (with_reducible refine ybc ?_ _) | (with_reducible refine ybd ?_ _) | (with_reducible refine ybj ?_) | exact HR149.out)) | (with_reducible refine ybc ?_ _) | (with_reducible refine ybd ?_ _) | (with_reducible refine ybj ?_)))
                   (case side4 => exact HC149.out)
                   rintro e w101 ⟨p3, rfl, ho0, hb⟩; refine ⟨_, rfl, ?_⟩; have n0_ := yaa (yah (upR a9.out) hb); have n1_ := yaa (yav (upQ a1.out) (ybb ho0) hb); have n2_ := yaa (yav (upQ a2.out) (ybb ho0) hb); have n3_ := yaa (yav (upQ a4.out) (ybb ho0) hb); have n4_ := yaa (yav (upQ a3.out) (ybb ho0) hb); have n5_ := yaa (Kd.R_elder' (upR d5.out) (ybb ho0) hb)
                   have n6_ := yaa (Kd.R_lower (yba (yba (yba (yba (yba ho0 (ybm (upQ a1.out))) (ybm (upQ a2.out))) (ybm (upQ a4.out))) (ybm (upQ a3.out))) (Kd.R_lt (upR d5.out))) (ybf (by repeat (with_reducible first | exact HB.out | apply yae | apply yab | apply yad | refine yal ?_ (Aside0.out ‹_›)))))
                   have n7_ := yaa (yac (upB a5.out) hb); have n8_ := yaa (yac (upB a6.out) hb); have n9_ := yaa (yac (upB a8.out) hb); have e8 := yaa (yac (upB a7.out) hb); have e9 := yaa (yac (upB b7.out) hb)
                   have g6 := yaa (Kd.C_below (by repeat (first | (with_reducible exact HR149.out) | (with_reducible refine ybc ?_ _) | (with_reducible refine ybd ?_ _) | (with_reducible refine ybj ?_) | exact HR149.out)) hb)
                   have h8 := yaa (yac (upB e4.out) hb)
                   have j5 := yaa (ybg (by repeat (with_reducible first | exact HB.out | apply yae | apply yab | apply yad | refine yal ?_ (Aside0.out ‹_›))) hb)
                   clear a9; clear a1; clear a2; clear a4; clear a3; clear d5; clear a5; clear a6; clear a8; clear a7; clear b7; clear HR149; clear e4; clear HB; have a9 := n0_; have a1 := n1_; have a2 := n2_; have a4 := n3_; have a3 := n4_; have d5 := n5_; have f7 := n6_; have a5 := n7_; have a6 := n8_; have a8 := n9_; have a7 := e8; have b7 := e9; have HR149 := g6; have e4 := h8; have HB := j5; clear n0_ n1_ n2_ n3_ n4_ n5_ n6_ n7_ n8_ n9_ e8 e9 g6 h8 j5; (try clear hb); (try clear hb2); (try clear hk); (try clear hi); (try clear ho0)
                   refine hK.out _ _ ⟨(yat b7.out 0).trans rfl, (yat b7.out 1).trans rfl, (yat b7.out 2).trans rfl⟩ (fun hHeld => ?_)
                   clear hK K
                   refine norm_ (a' := ?_) ?_ ?_
                   rotate_left
                   ·
                    show Act.put _ (some 93) _ = _
                    simp only [Act.put, List.setIfInBounds_toArray, List.set_cons_zero, List.set_cons_succ, i64_w, i32_w]
                    rfl
                   refine pz_ 5 88 q8_29 HT_ (by kernel_rfl) ?_
                   refine pz_ 6 94 q8_30 HT_ (by kernel_rfl) ?_
                   refine pz_ 7 95 q8_22 HT_ (by kernel_rfl) ?_
                   exact norm_ (by simp only [putAll, Act.put, List.setIfInBounds_toArray, List.set_cons_zero, List.set_cons_succ]) (hCont (p3, b3) _ ⟨hHeld, (by (with_reducible repeat (first | apply yaq | apply yar | apply yas)); exact yau d5.out (fun _ hk => by grind)), (by (with_reducible repeat (first | apply yaq | apply yar | apply yas)); exact yau f7.out (fun _ hk => by grind)), (by (with_reducible repeat (first | apply yam | apply yan | apply yak)); exact yao a1.out (fun _ hk => by grind)), (by (with_reducible repeat (first | apply yam | apply yan | apply yak)); exact yao a2.out (fun _ hk => by grind)), (by (with_reducible repeat (first | apply yam | apply yan | apply yak)); exact yao a4.out (fun _ hk => by grind)), (by (with_reducible repeat (first | apply yam | apply yan | apply yak)); exact yao a3.out (fun _ hk => by grind)), (upR a9.out), (upB a5.out), (upB a6.out), (upB a8.out), (upB a7.out), (upB b7.out), (upB e4.out), v8.out, v9.out, h3.out, i9.out, h4.out, j1.out, h5.out, j2.out, h6.out, j3.out, e2.out, j4.out, (by repeat (with_reducible first | exact HB.out | apply yae | apply yab | apply yad | refine yal ?_ (Aside0.out ‹_›)))⟩)
                 rintro ⟨p3, b3⟩ w102 ⟨hS_, h0_, h1_, h2_, h3_, h4_, h5_, h6_, h7_, h8_, h9_, h10_, h11_, h12_, h13_, h14_, h15_, h16_, h17_, h18_, h19_, h20_, h21_, h22_, h23_, h24_, h25_⟩; have n0_ : yap (Kd.R k36 36 w102 w.heap.size (fun k_ => some k_ ≠ (p3 : Value).ownBlock ∧ some k_ ≠ (.slice d6 c5.length d3 : Value).ownBlock ∧ some k_ ≠ (.slice e1 c6.length d7 : Value).ownBlock ∧ some k_ ≠ (.slice d8 d0.length d4 : Value).ownBlock ∧ some k_ ≠ (u127002 : Value).ownBlock) (.slice g2 e7.length g3) e7) := ⟨h0_⟩; have n1_ : yap (Kd.R k36 36 w102 w.heap.size (fun k_ => some k_ ≠ (.slice g2 e7.length g3 : Value).ownBlock ∧ some k_ ≠ (.slice d6 c5.length d3 : Value).ownBlock ∧ some k_ ≠ (.slice e1 c6.length d7 : Value).ownBlock ∧ some k_ ≠ (.slice d8 d0.length d4 : Value).ownBlock ∧ some k_ ≠ (u127002 : Value).ownBlock) p3 n3) := ⟨h1_⟩; have n2_ : yap (Kd.Q k36 36 w102 w.heap.size (fun k_ => some k_ ≠ (.slice g2 e7.length g3 : Value).ownBlock ∧ some k_ ≠ (p3 : Value).ownBlock ∧ some k_ ≠ (.slice e1 c6.length d7 : Value).ownBlock ∧ some k_ ≠ (.slice d8 d0.length d4 : Value).ownBlock) (.slice d6 c5.length d3) c5) := ⟨h2_⟩; have n3_ : yap (Kd.Q k36 36 w102 w.heap.size (fun k_ => some k_ ≠ (.slice g2 e7.length g3 : Value).ownBlock ∧ some k_ ≠ (p3 : Value).ownBlock ∧ some k_ ≠ (.slice d6 c5.length d3 : Value).ownBlock ∧ some k_ ≠ (.slice d8 d0.length d4 : Value).ownBlock ∧ some k_ ≠ (u127002 : Value).ownBlock) (.slice e1 c6.length d7) c6) := ⟨h3_⟩; have n4_ : yap (Kd.Q k36 36 w102 w.heap.size (fun k_ => some k_ ≠ (.slice g2 e7.length g3 : Value).ownBlock ∧ some k_ ≠ (p3 : Value).ownBlock ∧ some k_ ≠ (.slice d6 c5.length d3 : Value).ownBlock ∧ some k_ ≠ (.slice e1 c6.length d7 : Value).ownBlock ∧ some k_ ≠ (u127002 : Value).ownBlock) (.slice d8 d0.length d4) d0) := ⟨h4_⟩; have n5_ : yap (Kd.Q k36 36 w102 w.heap.size (fun k_ => some k_ ≠ (.slice g2 e7.length g3 : Value).ownBlock ∧ some k_ ≠ (p3 : Value).ownBlock ∧ some k_ ≠ (.slice e1 c6.length d7 : Value).ownBlock ∧ some k_ ≠ (.slice d8 d0.length d4 : Value).ownBlock) u127002 b1) := ⟨h5_⟩; have n6_ : yap (Kd.R k27 27 w102 w.heap.size (fun _ => True) (.slice n0 c9.length l3) c9) := ⟨h6_⟩; have n7_ : yap (w102.heap[b9]? = some (.cells #[.int .i64 e5, .int .i64 e6, .slice d6 c5.length d3] 25 (0, 0))) := ⟨h7_⟩; have n8_ : yap (w102.heap[c7]? = some (.cells #[.int .i64 g0, .int .i64 g1, .slice e1 c6.length d7] 25 (0, 0))) := ⟨h8_⟩; have n9_ : yap (w102.heap[b4]? = some (.cells #[.int .i64 g8, .int .i64 h7, .slice d8 d0.length d4] 25 (0, 0))) := ⟨h9_⟩; have e8 : yap (w102.heap[b5]? = some (.cells #[.int .i64 d2, .int .i64 d1, u127002] 25 (0, 0))) := ⟨h10_⟩; have e9 : yap (w102.heap[b0]? = some (.cells #[.int .i64 k5, .int .i64 k6, .slice g2 e7.length g3] 25 (0, 0))) := ⟨h11_⟩; have g6 : yap (w102.heap[b3]? = some (.cells #[.int .i64 0, .int .i64 0, .slice none 0 0] 25 (0, 0))) := ⟨h12_⟩; have h8 : yap (w.heap.size ≤ b3) := ⟨h13_⟩; have j5 : yap (w.heap.size ≤ b3) := ⟨h14_⟩; have j8 : yap (b9 ≠ b3) := ⟨h15_⟩; have j9 : yap (b3 ≠ b9) := ⟨h16_⟩; have k0 : yap (c7 ≠ b3) := ⟨h17_⟩; have k1 : yap (b3 ≠ c7) := ⟨h18_⟩; have k3 : yap (b4 ≠ b3) := ⟨h19_⟩; have k4 : yap (b3 ≠ b4) := ⟨h20_⟩; have l4 : yap (b5 ≠ b3) := ⟨h21_⟩; have p1 : yap (b3 ≠ b5) := ⟨h22_⟩; have p7 : yap (b0 ≠ b3) := ⟨h23_⟩; have p8 : yap (b3 ≠ b0) := ⟨h24_⟩; have p9 : yap (Below w.heap.size w w102) := ⟨h25_⟩; clear a9; clear a1; clear a2; clear a4; clear a3; clear d5; clear a5; clear a6; clear a8; clear a7; clear b7; clear HB; clear h0_ h1_ h2_ h3_ h4_ h5_ h6_ h7_ h8_ h9_ h10_ h11_ h12_ h13_ h14_ h15_ h16_ h17_ h18_ h19_ h20_ h21_ h22_ h23_ h24_ h25_; have d5 := n0_; have f7 := n1_; have a1 := n2_; have a2 := n3_; have a4 := n4_; have a3 := n5_; have a9 := n6_; have a5 := n7_; have a6 := n8_; have a8 := n9_; have a7 := e8; have b7 := e9; have e4 := g6; have v8 := h8; have v9 := j5; have h3 := j8; have i9 := j9; have h4 := k0; have j1 := k1; have h5 := k3; have j2 := k4; have h6 := l4; have j3 := p1; have e2 := p7; have j4 := p8; have HB := p9; clear n0_ n1_ n2_ n3_ n4_ n5_ n6_ n7_ n8_ n9_ e8 e9 g6 h8 j5 j8 j9 k0 k1 k3 k4 l4 p1 p7 p8 p9; have hHeld : w102.cell? ⟨b0, 0, none⟩ = some (.int .i64 k5) ∧ w102.cell? ⟨b0, 1, none⟩ = some (.int .i64 k6) ∧ w102.cell? ⟨b0, 2, none⟩ = some (.slice g2 e7.length g3) := hS_; obtain ⟨m4, m5, B1⟩ := Kd.R_slice f7.out
                 (first | subst B1 | (injection B1 with f1_ f2_ f3_; have f4_ := f1_.symm; have f5_ := f3_.symm; clear f1_ f2_ f3_; subst f4_; subst f5_))
                 refine norm_ (a' := ?_) ?_ ?_
                 rotate_left
                 ·
                  simp only [putAll, Act.put, List.setIfInBounds_toArray, List.set_cons_zero, List.set_cons_succ]
                  rfl
                 refine one_ (i := 9) (N := none) q8_31 rfl rfl (one_of HT_.out (by kernel_rfl)) (by decide) (fun K hK => ?_)
                 have bS : w102.cell? ⟨b3, 0, none⟩ = some (.int .i64 0) := (yat e4.out 0).trans rfl; have T8 := blk_frozen e4.out 0; have D1 := h3.out; have D2 := h4.out; have D3 := h5.out; have D4 := h6.out; have D5 := e2.out; have D6 := i9.out; have D7 := j1.out; have D8 := j2.out; have D9 := j3.out; have E0 := j4.out; have bT : w102.cell? ⟨b3, 1, none⟩ = some (.int .i64 0) := (yat e4.out 1).trans rfl; have T9 := blk_frozen e4.out 1; have E1 := h3.out; have E2 := h4.out; have E3 := h5.out; have E4 := h6.out; have E5 := e2.out; have E6 := i9.out; have E7 := j1.out; have E8 := j2.out; have E9 := j3.out; have F0 := j4.out; have bU : w102.cell? ⟨b3, 2, none⟩ = some (.slice none 0 0) := (yat e4.out 2).trans rfl; have U0 := blk_frozen e4.out 2; have F1 := h3.out; have F2 := h4.out; have F3 := h5.out; have F4 := h6.out; have F5 := e2.out; have F6 := i9.out; have F7 := j1.out; have F8 := j2.out; have F9 := j3.out; have G0 := j4.out
                 refine skip_ (w1 := ?_) (by rfl) rfl ?_ ?_
                 rotate_left
                 ·
                  go_simp
                  rfl
                 refine hK.out _ _ ⟨((ybe (p := ⟨b3, _, none⟩) e2.out _).trans (((ybe (p := ⟨b3, _, none⟩) e2.out _).trans (((ybe (p := ⟨b3, _, none⟩) e2.out _).trans (hHeld.1)))))), ((ybe (p := ⟨b3, _, none⟩) e2.out _).trans (((ybe (p := ⟨b3, _, none⟩) e2.out _).trans (((ybe (p := ⟨b3, _, none⟩) e2.out _).trans (hHeld.2.1)))))), ((ybe (p := ⟨b3, _, none⟩) e2.out _).trans (((ybe (p := ⟨b3, _, none⟩) e2.out _).trans (((ybe (p := ⟨b3, _, none⟩) e2.out _).trans (hHeld.2.2))))))⟩ (fun hHeld => ?_)
                 clear hK K
                 refine pz_ 10 17 q8_32 HT_ (by kernel_rfl) ?_
                 refine done_ (done_of HT_.out (by kernel_rfl)) ?_
                 have U1 := h9.out; have U2 := k8.out; have U3 := i0.out; have U4 := m0.out; have U5 := k9.out; have U6 := o0.out; have U7 := e0.out; have U8 := i6.out; have U9 := h3.out; have V0 := i9.out; obtain ⟨G1, G2, G3⟩ := cc3_ a5.out; obtain ⟨G4, G5, G6⟩ := cf3_ a5.out
                 try go_wp2_with (first | ((with_reducible refine gd_ 98 rfl ?_); refine Kd.R_lit k27 _ 27 ?hg (N := 98) ?hd (xs := ([] : List (S27))) (inner := []) (ok := fun _ => True) (okp := fun _ => True) ?hr ?hp (fun _ hk => hk) trivial (Below.refl _ _) (Nat.le_refl _) (by simp) ?_; (case hd => rfl); (case hg => first | rfl | (simp [Region.wanted, yielded, *]; done)); (case hr => first | (go_simp; done) | (go_simp; rfl)); (case hp => exact (Reps.none _ _)); intro cG w113 p4 hb hg_ hnew_; clear hg_ hnew_; (first | rw [← Ny157.out] at p4 | (simp only [Int.reduceToNat] at p4; rw [← Ny157.out] at p4)); replace a1 := yaa (yaj (by (with_reducible repeat (first | apply yam | apply yan | apply yak)); exact (yao (yaf (p := ⟨b3, 2, none⟩) (yaf (p := ⟨b3, 1, none⟩) (yaf (p := ⟨b3, 0, none⟩) (yax a1.out e4.out (by decide)) (fun _ hk => hk.2) (.int .i64 m9)) (fun _ hk => hk.2) (.int .i64 n2)) (fun _ hk => hk.2) (.slice m4 n3.length m5)) (fun _ h_ => h_.1))) hb); replace a2 := yaa (yaj (by (with_reducible repeat (first | apply yam | apply yan | apply yak)); exact (yao (yaf (p := ⟨b3, 2, none⟩) (yaf (p := ⟨b3, 1, none⟩) (yaf (p := ⟨b3, 0, none⟩) (yax a2.out e4.out (by decide)) (fun _ hk => hk.2) (.int .i64 m9)) (fun _ hk => hk.2) (.int .i64 n2)) (fun _ hk => hk.2) (.slice m4 n3.length m5)) (fun _ h_ => h_.1))) hb); replace a4 := yaa (yaj (by (with_reducible repeat (first | apply yam | apply yan | apply yak)); exact (yao (yaf (p := ⟨b3, 2, none⟩) (yaf (p := ⟨b3, 1, none⟩) (yaf (p := ⟨b3, 0, none⟩) (yax a4.out e4.out (by decide)) (fun _ hk => hk.2) (.int .i64 m9)) (fun _ hk => hk.2) (.int .i64 n2)) (fun _ hk => hk.2) (.slice m4 n3.length m5)) (fun _ h_ => h_.1))) hb); replace a3 := yaa (yaj (by (with_reducible repeat (first | apply yam | apply yan | apply yak)); exact (yao (yaf (p := ⟨b3, 2, none⟩) (yaf (p := ⟨b3, 1, none⟩) (yaf (p := ⟨b3, 0, none⟩) (yax a3.out e4.out (by decide)) (fun _ hk => hk.2) (.int .i64 m9)) (fun _ hk => hk.2) (.int .i64 n2)) (fun _ hk => hk.2) (.slice m4 n3.length m5)) (fun _ h_ => h_.1))) hb); replace d5 := yaa (yah (by (with_reducible repeat (first | apply yaq | apply yar | apply yas)); exact (yau (yag (p := ⟨b3, 2, none⟩) (yag (p := ⟨b3, 1, none⟩) (yag (p := ⟨b3, 0, none⟩) (yay d5.out e4.out (by decide)) (fun _ hk => hk.2) (.int .i64 m9)) (fun _ hk => hk.2) (.int .i64 n2)) (fun _ hk => hk.2) (.slice m4 n3.length m5)) (fun _ h_ => h_.1))) hb); replace f7 := yaa (yah (by (with_reducible repeat (first | apply yaq | apply yar | apply yas)); exact (yau (yag (p := ⟨b3, 2, none⟩) (yag (p := ⟨b3, 1, none⟩) (yag (p := ⟨b3, 0, none⟩) (yay f7.out e4.out (by decide)) (fun _ hk => hk.2) (.int .i64 m9)) (fun _ hk => hk.2) (.int .i64 n2)) (fun _ hk => hk.2) (.slice m4 n3.length m5)) (fun _ h_ => h_.1))) hb); have l5 := yaa (Kd.R_lower (yba p4 (Kd.R_lt (by (with_reducible repeat (first | apply yaq | apply yar | apply yas)); exact (yau (yag (p := ⟨b3, 2, none⟩) (yag (p := ⟨b3, 1, none⟩) (yag (p := ⟨b3, 0, none⟩) (yay a9.out e4.out (by decide)) (fun _ hk => hk.2) (.int .i64 m9)) (fun _ hk => hk.2) (.int .i64 n2)) (fun _ hk => hk.2) (.slice m4 n3.length m5)) (fun _ h_ => h_.1))))) (ybf (by repeat (with_reducible first | exact HB.out | apply yae | apply yab | apply yad | refine yal ?_ (Aside0.out ‹_›))))); replace a9 := yaa (Kd.R_elder' (by (with_reducible repeat (first | apply yaq | apply yar | apply yas)); exact (yau (yag (p := ⟨b3, 2, none⟩) (yag (p := ⟨b3, 1, none⟩) (yag (p := ⟨b3, 0, none⟩) (yay a9.out e4.out (by decide)) (fun _ hk => hk.2) (.int .i64 m9)) (fun _ hk => hk.2) (.int .i64 n2)) (fun _ hk => hk.2) (.slice m4 n3.length m5)) (fun _ h_ => h_.1))) (ybb p4) hb); replace a5 := yaa (yac (g := b9) (o := .cells #[.int .i64 e5, .int .i64 e6, .slice d6 c5.length d3] 25 (0, 0)) (by repeat (with_reducible first | exact a5.out | refine oneB ?_ | refine ybl ?_ h3.out _)) hb); replace a6 := yaa (yac (g := c7) (o := .cells #[.int .i64 g0, .int .i64 g1, .slice e1 c6.length d7] 25 (0, 0)) (by repeat (with_reducible first | exact a6.out | refine oneB ?_ | refine ybl ?_ h4.out _)) hb); replace a8 := yaa (yac (g := b4) (o := .cells #[.int .i64 g8, .int .i64 h7, .slice d8 d0.length d4] 25 (0, 0)) (by repeat (with_reducible first | exact a8.out | refine oneB ?_ | refine ybl ?_ h5.out _)) hb); replace a7 := yaa (yac (g := b5) (o := .cells #[.int .i64 d2, .int .i64 d1, u127002] 25 (0, 0)) (by repeat (with_reducible first | exact a7.out | refine oneB ?_ | refine ybl ?_ h6.out _)) hb); replace b7 := yaa (yac (g := b0) (o := .cells #[.int .i64 k5, .int .i64 k6, .slice g2 e7.length g3] 25 (0, 0)) (by repeat (with_reducible first | exact b7.out | refine oneB ?_ | refine ybl ?_ e2.out _)) hb); replace e4 := yaa (yac (g := b3) (o := .cells #[.int .i64 m9, .int .i64 n2, .slice m4 n3.length m5] 25 (0, 0)) (by (repeat refine oneB ?_); refine ybn (cs := #[.int .i64 m9, .int .i64 n2, .slice none 0 0]) ?_ 2 _ rfl; refine ybn (cs := #[.int .i64 m9, .int .i64 0, .slice none 0 0]) ?_ 1 _ rfl; refine ybn (cs := #[.int .i64 0, .int .i64 0, .slice none 0 0]) ?_ 0 _ rfl; exact upB e4.out) hb); replace HB := yaa (ybg (by repeat (with_reducible first | exact HB.out | apply yae | apply yab | apply yad | refine yal ?_ (Aside0.out ‹_›))) hb); clear hb p4; obtain ⟨G7, G8, G9⟩ := Kd.R_slice l5.out; subst G9) | ((with_reducible refine gc_ 27 rfl ?_); refine gl_ (some 99) rfl Try.func27 #[.agg #[.int .i64 e5, .int .i64 e6, .slice d6 c5.length d3], .slice G7 y157.length G8] ?_; (with_reducible refine (impl_OpsDo.calls e5 e6 _ _ c5 _ _ y157 n6 n8 n7 true _ ?side1 ?side2 ?side3 ?side4 A77.out).mono ?_); (case side1 => repeat (first | exact (ybh a1.out).2.2 | (with_reducible refine ybc ?_ _) | (with_reducible refine ybd ?_ _) | (with_reducible refine ybj ?_))); (case side2 => exact (ybh a1.out).2.1); (case side3 => repeat (first | exact (yaz l5.out).2.2 | (with_reducible refine ybc ?_ _) | (with_reducible refine ybd ?_ _) | (with_reducible refine ybj ?_))); (case side4 => exact (yaz l5.out).2.1); rintro e w116 ⟨cH, rfl, ho0, hb⟩; refine ⟨_, rfl, ?_⟩; replace a9 := yaa (yah (upR a9.out) hb); replace l5 := yaa (yah (upR l5.out) hb); have m2 := yaa (Kd.R_lower (yba (yba (yba (yba (yba (yba ho0 (ybm (upQ a1.out))) (ybm (upQ a2.out))) (ybm (upQ a4.out))) (ybm (upQ a3.out))) (Kd.R_lt (upR d5.out))) (Kd.R_lt (upR f7.out))) (ybf (by repeat (with_reducible first | exact HB.out | apply yae | apply yab | apply yad | refine yal ?_ (Aside0.out ‹_›))))); replace a1 := yaa (yav (upQ a1.out) (ybb ho0) hb); replace a2 := yaa (yav (upQ a2.out) (ybb ho0) hb); replace a4 := yaa (yav (upQ a4.out) (ybb ho0) hb); replace a3 := yaa (yav (upQ a3.out) (ybb ho0) hb); replace d5 := yaa (Kd.R_elder' (upR d5.out) (ybb ho0) hb); replace f7 := yaa (Kd.R_elder' (upR f7.out) (ybb ho0) hb); replace a5 := yaa (yac (upB a5.out) hb); replace a6 := yaa (yac (upB a6.out) hb); replace a8 := yaa (yac (upB a8.out) hb); replace a7 := yaa (yac (upB a7.out) hb); replace b7 := yaa (yac (upB b7.out) hb); replace e4 := yaa (yac (upB e4.out) hb); replace HB := yaa (ybg (by repeat (with_reducible first | exact HB.out | apply yae | apply yab | apply yad | refine yal ?_ (Aside0.out ‹_›))) hb); (try clear hb ho0)) | ((with_reducible refine gd_ 18 rfl ?_); refine bx_ 18 rfl #[.int .i64 0, .int .i64 0, .slice none 0 0] 25 ?_; intro e3 hg w117 hbox hb; replace a9 := yaa (yah (upR a9.out) hb); replace a1 := yaa (yaj (upQ a1.out) hb); replace a2 := yaa (yaj (upQ a2.out) hb); replace a4 := yaa (yaj (upQ a4.out) hb); replace a3 := yaa (yaj (upQ a3.out) hb); replace d5 := yaa (yah (upR d5.out) hb); replace f7 := yaa (yah (upR f7.out) hb); replace l5 := yaa (yah (upR l5.out) hb); replace m2 := yaa (yah (upR m2.out) hb); have g7 := yaa (hbox); have H0 := yaa ((by rw [hg]; exact (ybf (by repeat (with_reducible first | exact HB.out | apply yae | apply yab | apply yad | refine yal ?_ (Aside0.out ‹_›)))) : w.heap.size ≤ e3)); replace HB := yaa (ybg (by repeat (with_reducible first | exact HB.out | apply yae | apply yab | apply yad | refine yal ?_ (Aside0.out ‹_›))) hb); have bV := H0; have o3 := yaa ((by rw [hg]; exact Nat.ne_of_lt (ybi (upB a5.out)) : b9 ≠ e3)); replace a5 := yaa (yac (upB a5.out) hb); have w3 := yaa o3.out.symm; have o4 := yaa ((by rw [hg]; exact Nat.ne_of_lt (ybi (upB a6.out)) : c7 ≠ e3)); replace a6 := yaa (yac (upB a6.out) hb); have w4 := yaa o4.out.symm; have o5 := yaa ((by rw [hg]; exact Nat.ne_of_lt (ybi (upB a8.out)) : b4 ≠ e3)); replace a8 := yaa (yac (upB a8.out) hb); have w5 := yaa o5.out.symm; have o6 := yaa ((by rw [hg]; exact Nat.ne_of_lt (ybi (upB a7.out)) : b5 ≠ e3)); replace a7 := yaa (yac (upB a7.out) hb); have w6 := yaa o6.out.symm; have o7 := yaa ((by rw [hg]; exact Nat.ne_of_lt (ybi (upB b7.out)) : b0 ≠ e3)); replace b7 := yaa (yac (upB b7.out) hb); have w9 := yaa o7.out.symm; have o8 := yaa ((by rw [hg]; exact Nat.ne_of_lt (ybi (upB e4.out)) : b3 ≠ e3)); replace e4 := yaa (yac (upB e4.out) hb); have x0 := yaa o8.out.symm; clear hb hbox hg; have V1 := w3.out; have V2 := o3.out; have V3 := w4.out; have V4 := o4.out; have V5 := w5.out; have V6 := o5.out; have V7 := w6.out; have V8 := o6.out; have V9 := w9.out; have W0 := o7.out; have W1 := x0.out; have W2 := o8.out; obtain ⟨H1, H2, H3⟩ := cc3_ g7.out; obtain ⟨H4, H5, H6⟩ := cf3_ g7.out; obtain ⟨l6, l7, H7⟩ := Kd.R_slice m2.out; subst H7; have W3 := o1.out; have W4 := l1.out; have W5 := o2.out; have W6 := l2.out; have W7 := f6.out; have W8 := i8.out; have W9 := h6.out; have X0 := j3.out; obtain ⟨H8, H9, I0⟩ := cc3_ a7.out; obtain ⟨I1, I2, I3⟩ := cf3_ a7.out; have X1 := i1.out; have X2 := m1.out; have X3 := f5.out; have X4 := i7.out; have X5 := h4.out; have X6 := j1.out; obtain ⟨I4, I5, I6⟩ := cc3_ a6.out; obtain ⟨I7, I8, I9⟩ := cf3_ a6.out; obtain ⟨x9, w2, J0, _⟩ := Kd.Q_slice a3.out; subst J0) | ((with_reducible refine gc_ 13 rfl ?_); refine gl_ (some 104) rfl Try.func13 #[.agg #[.int .i64 d2, .int .i64 d1, .slice x9 b1.length w2], .agg #[.int .i64 g0, .int .i64 g1, .slice e1 c6.length d7]] ?_; (with_reducible refine (laws_eaRas.calls k2 d2 d1 _ _ b1 g0 g1 _ _ c6 true _ ?side1 ?side2 ?side3 ?side4 A78.out).mono ?_); (case side1 => refine (ybh (e := 36) (base := w.heap.size) (ok := fun k_ => ((some k_ ≠ (.slice g2 e7.length g3 : Value).ownBlock ∧ (some k_ ≠ (.slice m4 n3.length m5 : Value).ownBlock ∧ (some k_ ≠ (.slice e1 c6.length d7 : Value).ownBlock ∧ some k_ ≠ (.slice d8 d0.length d4 : Value).ownBlock))) ∧ some k_ ≠ (.slice l6 n7.length l7 : Value).ownBlock)) (n := b1.length) (c := w2) ?_).2.2; exact (by (with_reducible repeat (first | apply yam | apply yan | apply yak)); exact (yao (yaf (p := ⟨e3, 2, none⟩) (yaf (p := ⟨e3, 1, none⟩) (yaf (p := ⟨e3, 0, none⟩) (yax a3.out g7.out (by decide)) (fun _ hk => hk.2) (.int .i64 n6)) (fun _ hk => hk.2) (.int .i64 n8)) (fun _ hk => hk.2) (.slice l6 n7.length l7)) (fun _ h_ => h_.1)))); (case side2 => exact (ybh a3.out).2.1); (case side3 => refine (ybh (e := 36) (base := w.heap.size) (ok := fun k_ => ((some k_ ≠ (.slice g2 e7.length g3 : Value).ownBlock ∧ (some k_ ≠ (.slice m4 n3.length m5 : Value).ownBlock ∧ (some k_ ≠ (.slice d6 c5.length d3 : Value).ownBlock ∧ (some k_ ≠ (.slice d8 d0.length d4 : Value).ownBlock ∧ some k_ ≠ (.slice x9 b1.length w2 : Value).ownBlock)))) ∧ some k_ ≠ (.slice l6 n7.length l7 : Value).ownBlock)) (n := c6.length) (c := d7) ?_).2.2; exact (by (with_reducible repeat (first | apply yam | apply yan | apply yak)); exact (yao (yaf (p := ⟨e3, 2, none⟩) (yaf (p := ⟨e3, 1, none⟩) (yaf (p := ⟨e3, 0, none⟩) (yax a2.out g7.out (by decide)) (fun _ hk => hk.2) (.int .i64 n6)) (fun _ hk => hk.2) (.int .i64 n8)) (fun _ hk => hk.2) (.slice l6 n7.length l7)) (fun _ h_ => h_.1)))); (case side4 => exact (ybh a2.out).2.1); rintro e w136 ⟨rfl, hb⟩; refine ⟨_, rfl, ?_⟩; replace a9 := yaa (yah (by (with_reducible repeat (first | apply yaq | apply yar | apply yas)); exact (yau (yag (p := ⟨e3, 2, none⟩) (yag (p := ⟨e3, 1, none⟩) (yag (p := ⟨e3, 0, none⟩) (yay a9.out g7.out (by decide)) (fun _ hk => hk.2) (.int .i64 n6)) (fun _ hk => hk.2) (.int .i64 n8)) (fun _ hk => hk.2) (.slice l6 n7.length l7)) (fun _ h_ => h_.1))) hb); replace a1 := yaa (yaj (by (with_reducible repeat (first | apply yam | apply yan | apply yak)); exact (yao (yaf (p := ⟨e3, 2, none⟩) (yaf (p := ⟨e3, 1, none⟩) (yaf (p := ⟨e3, 0, none⟩) (yax a1.out g7.out (by decide)) (fun _ hk => hk.2) (.int .i64 n6)) (fun _ hk => hk.2) (.int .i64 n8)) (fun _ hk => hk.2) (.slice l6 n7.length l7)) (fun _ h_ => h_.1))) hb); replace a2 := yaa (yaj (by (with_reducible repeat (first | apply yam | apply yan | apply yak)); exact (yao (yaf (p := ⟨e3, 2, none⟩) (yaf (p := ⟨e3, 1, none⟩) (yaf (p := ⟨e3, 0, none⟩) (yax a2.out g7.out (by decide)) (fun _ hk => hk.2) (.int .i64 n6)) (fun _ hk => hk.2) (.int .i64 n8)) (fun _ hk => hk.2) (.slice l6 n7.length l7)) (fun _ h_ => h_.1))) hb); replace a4 := yaa (yaj (by (with_reducible repeat (first | apply yam | apply yan | apply yak)); exact (yao (yaf (p := ⟨e3, 2, none⟩) (yaf (p := ⟨e3, 1, none⟩) (yaf (p := ⟨e3, 0, none⟩) (yax a4.out g7.out (by decide)) (fun _ hk => hk.2) (.int .i64 n6)) (fun _ hk => hk.2) (.int .i64 n8)) (fun _ hk => hk.2) (.slice l6 n7.length l7)) (fun _ h_ => h_.1))) hb); replace a3 := yaa (yaj (by (with_reducible repeat (first | apply yam | apply yan | apply yak)); exact (yao (yaf (p := ⟨e3, 2, none⟩) (yaf (p := ⟨e3, 1, none⟩) (yaf (p := ⟨e3, 0, none⟩) (yax a3.out g7.out (by decide)) (fun _ hk => hk.2) (.int .i64 n6)) (fun _ hk => hk.2) (.int .i64 n8)) (fun _ hk => hk.2) (.slice l6 n7.length l7)) (fun _ h_ => h_.1))) hb); replace d5 := yaa (yah (by (with_reducible repeat (first | apply yaq | apply yar | apply yas)); exact (yau (yag (p := ⟨e3, 2, none⟩) (yag (p := ⟨e3, 1, none⟩) (yag (p := ⟨e3, 0, none⟩) (yay d5.out g7.out (by decide)) (fun _ hk => hk.2) (.int .i64 n6)) (fun _ hk => hk.2) (.int .i64 n8)) (fun _ hk => hk.2) (.slice l6 n7.length l7)) (fun _ h_ => h_.1))) hb); replace f7 := yaa (yah (by (with_reducible repeat (first | apply yaq | apply yar | apply yas)); exact (yau (yag (p := ⟨e3, 2, none⟩) (yag (p := ⟨e3, 1, none⟩) (yag (p := ⟨e3, 0, none⟩) (yay f7.out g7.out (by decide)) (fun _ hk => hk.2) (.int .i64 n6)) (fun _ hk => hk.2) (.int .i64 n8)) (fun _ hk => hk.2) (.slice l6 n7.length l7)) (fun _ h_ => h_.1))) hb); replace l5 := yaa (yah (by (with_reducible repeat (first | apply yaq | apply yar | apply yas)); exact (yau (yag (p := ⟨e3, 2, none⟩) (yag (p := ⟨e3, 1, none⟩) (yag (p := ⟨e3, 0, none⟩) (yay l5.out g7.out (by decide)) (fun _ hk => hk.2) (.int .i64 n6)) (fun _ hk => hk.2) (.int .i64 n8)) (fun _ hk => hk.2) (.slice l6 n7.length l7)) (fun _ h_ => h_.1))) hb); replace m2 := yaa (yah (by (with_reducible repeat (first | apply yaq | apply yar | apply yas)); exact (yau (yag (p := ⟨e3, 2, none⟩) (yag (p := ⟨e3, 1, none⟩) (yag (p := ⟨e3, 0, none⟩) (yay m2.out g7.out (by decide)) (fun _ hk => hk.2) (.int .i64 n6)) (fun _ hk => hk.2) (.int .i64 n8)) (fun _ hk => hk.2) (.slice l6 n7.length l7)) (fun _ h_ => h_.1))) hb); replace a5 := yaa (yac (g := b9) (o := .cells #[.int .i64 e5, .int .i64 e6, .slice d6 c5.length d3] 25 (0, 0)) (by repeat (with_reducible first | exact a5.out | refine oneB ?_ | refine ybl ?_ o3.out _)) hb); replace a6 := yaa (yac (g := c7) (o := .cells #[.int .i64 g0, .int .i64 g1, .slice e1 c6.length d7] 25 (0, 0)) (by repeat (with_reducible first | exact a6.out | refine oneB ?_ | refine ybl ?_ o4.out _)) hb); replace a8 := yaa (yac (g := b4) (o := .cells #[.int .i64 g8, .int .i64 h7, .slice d8 d0.length d4] 25 (0, 0)) (by repeat (with_reducible first | exact a8.out | refine oneB ?_ | refine ybl ?_ o5.out _)) hb); replace a7 := yaa (yac (g := b5) (o := .cells #[.int .i64 d2, .int .i64 d1, .slice x9 b1.length w2] 25 (0, 0)) (by repeat (with_reducible first | exact a7.out | refine oneB ?_ | refine ybl ?_ o6.out _)) hb); replace b7 := yaa (yac (g := b0) (o := .cells #[.int .i64 k5, .int .i64 k6, .slice g2 e7.length g3] 25 (0, 0)) (by repeat (with_reducible first | exact b7.out | refine oneB ?_ | refine ybl ?_ o7.out _)) hb); replace e4 := yaa (yac (g := b3) (o := .cells #[.int .i64 m9, .int .i64 n2, .slice m4 n3.length m5] 25 (0, 0)) (by repeat (with_reducible first | exact e4.out | refine oneB ?_ | refine ybl ?_ o8.out _)) hb); replace g7 := yaa (yac (g := e3) (o := .cells #[.int .i64 n6, .int .i64 n8, .slice l6 n7.length l7] 25 (0, 0)) (by (repeat refine oneB ?_); refine ybn (cs := #[.int .i64 n6, .int .i64 n8, .slice none 0 0]) ?_ 2 _ rfl; refine ybn (cs := #[.int .i64 n6, .int .i64 0, .slice none 0 0]) ?_ 1 _ rfl; refine ybn (cs := #[.int .i64 0, .int .i64 0, .slice none 0 0]) ?_ 0 _ rfl; exact upB g7.out) hb); replace HB := yaa (ybg (by repeat (with_reducible first | exact HB.out | apply yae | apply yab | apply yad | refine yal ?_ (Aside0.out ‹_›))) hb); (try clear hb); have X7 := j2.out; have X8 := h5.out; have X9 := j4.out; have Y0 := e2.out; obtain ⟨J1, J2, J3⟩ := cc3_ e4.out; obtain ⟨J4, J5, J6⟩ := cf3_ e4.out; obtain ⟨J7, J8, J9⟩ := cc3_ a6.out; obtain ⟨K0, K1⟩ := cf2_ a6.out; have K2 := blk_frozen a6.out 2) | (go_at_call 13; (with_reducible refine (laws_eaRas.calls k2 m9 n2 _ _ n3 g0 g1 _ _ c6 true _ ?side1 ?side2 ?side3 ?side4 A83.out).mono ?_); (case side1 => repeat (first | exact (yaz f7.out).2.2 | (with_reducible refine ybc ?_ _) | (with_reducible refine ybd ?_ _) | (with_reducible refine ybj ?_))); (case side2 => exact (yaz f7.out).2.1); (case side3 => repeat (first | exact (ybh a2.out).2.2 | (with_reducible refine ybc ?_ _) | (with_reducible refine ybd ?_ _) | (with_reducible refine ybj ?_))); (case side4 => exact (ybh a2.out).2.1); rintro e w141 ⟨rfl, hb⟩; replace a9 := yaa (yah (upR a9.out) hb); replace a1 := yaa (yaj (upQ a1.out) hb); replace a2 := yaa (yaj (upQ a2.out) hb); replace a4 := yaa (yaj (upQ a4.out) hb); replace a3 := yaa (yaj (upQ a3.out) hb); replace d5 := yaa (yah (upR d5.out) hb); replace f7 := yaa (yah (upR f7.out) hb); replace l5 := yaa (yah (upR l5.out) hb); replace m2 := yaa (yah (upR m2.out) hb); replace a5 := yaa (yac (upB a5.out) hb); replace a6 := yaa (yac (upB a6.out) hb); replace a8 := yaa (yac (upB a8.out) hb); replace a7 := yaa (yac (upB a7.out) hb); replace b7 := yaa (yac (upB b7.out) hb); replace e4 := yaa (yac (upB e4.out) hb); replace g7 := yaa (yac (upB g7.out) hb); replace HB := yaa (ybg (by repeat (with_reducible first | exact HB.out | apply yae | apply yab | apply yad | refine yal ?_ (Aside0.out ‹_›))) hb); (try clear hb); obtain ⟨K3, K4, K5⟩ := cc3_ g7.out; obtain ⟨K6, K7, K8⟩ := cf3_ g7.out; obtain ⟨K9, L0, L1⟩ := cc3_ a5.out; obtain ⟨L2, L3⟩ := cf2_ a5.out; have L4 := blk_frozen a5.out 2) | (go_at_call 13; (with_reducible refine (laws_eaRas.calls k2 n6 n8 _ _ n7 e5 e6 _ _ c5 true _ ?side1 ?side2 ?side3 ?side4 A85.out).mono ?_); (case side1 => repeat (first | exact (yaz m2.out).2.2 | (with_reducible refine ybc ?_ _) | (with_reducible refine ybd ?_ _) | (with_reducible refine ybj ?_))); (case side2 => exact (yaz m2.out).2.1); (case side3 => repeat (first | exact (ybh a1.out).2.2 | (with_reducible refine ybc ?_ _) | (with_reducible refine ybd ?_ _) | (with_reducible refine ybj ?_))); (case side4 => exact (ybh a1.out).2.1); rintro e w144 ⟨rfl, hb⟩; replace a9 := yaa (yah (upR a9.out) hb); replace a1 := yaa (yaj (upQ a1.out) hb); replace a2 := yaa (yaj (upQ a2.out) hb); replace a4 := yaa (yaj (upQ a4.out) hb); replace a3 := yaa (yaj (upQ a3.out) hb); replace d5 := yaa (yah (upR d5.out) hb); replace f7 := yaa (yah (upR f7.out) hb); replace l5 := yaa (yah (upR l5.out) hb); replace m2 := yaa (yah (upR m2.out) hb); replace a5 := yaa (yac (upB a5.out) hb); replace a6 := yaa (yac (upB a6.out) hb); replace a8 := yaa (yac (upB a8.out) hb); replace a7 := yaa (yac (upB a7.out) hb); replace b7 := yaa (yac (upB b7.out) hb); replace e4 := yaa (yac (upB e4.out) hb); replace g7 := yaa (yac (upB g7.out) hb); replace HB := yaa (ybg (by repeat (with_reducible first | exact HB.out | apply yae | apply yab | apply yad | refine yal ?_ (Aside0.out ‹_›))) hb); (try clear hb); obtain ⟨L5, L6, L7⟩ := cc3_ a6.out; obtain ⟨L8, L9⟩ := cf2_ a6.out; have M0 := blk_frozen a6.out 2) | (go_at_call 17; (with_reducible refine (impl_RasOk.calls k2 g0 g1 _ _ c6 B8 _ ?side1 ?side2 A87.out).mono ?_); (case side1 => repeat (first | exact (ybh a2.out).2.2 | (with_reducible refine ybc ?_ _) | (with_reducible refine ybd ?_ _) | (with_reducible refine ybj ?_))); (case side2 => exact (ybh a2.out).2.1); rintro e w146 ⟨rfl, hb⟩; replace a9 := yaa (yah (upR a9.out) hb); replace a1 := yaa (yaj (upQ a1.out) hb); replace a2 := yaa (yaj (upQ a2.out) hb); replace a4 := yaa (yaj (upQ a4.out) hb); replace a3 := yaa (yaj (upQ a3.out) hb); replace d5 := yaa (yah (upR d5.out) hb); replace f7 := yaa (yah (upR f7.out) hb); replace l5 := yaa (yah (upR l5.out) hb); replace m2 := yaa (yah (upR m2.out) hb); replace a5 := yaa (yac (upB a5.out) hb); replace a6 := yaa (yac (upB a6.out) hb); replace a8 := yaa (yac (upB a8.out) hb); replace a7 := yaa (yac (upB a7.out) hb); replace b7 := yaa (yac (upB b7.out) hb); replace e4 := yaa (yac (upB e4.out) hb); replace g7 := yaa (yac (upB g7.out) hb); replace HB := yaa (ybg (by repeat (with_reducible first | exact HB.out | apply yae | apply yab | apply yad | refine yal ?_ (Aside0.out ‹_›))) hb); (try clear hb)))
                 go_ret
                 exact ⟨by first | rfl | (simp [errW_none, errW_some] <;> rfl) | (simp only [← hji70]; first | rfl | (simp [errW_none, errW_some] <;> rfl)) | (simp [*, errW_none, errW_some] <;> rfl), by repeat (with_reducible first | exact HB.out | apply yae | apply yab | apply yad | refine yal ?_ (Aside0.out ‹_›))⟩
                ·
                 replace c86 := Bool.eq_false_iff.mpr c86
                 subst c86
                 rw [if_neg (show ¬ (false = true) by decide)] at H
                 rw [hrt] at H
                 exact absurd H (by simp)
               ·
                replace c84 := Bool.eq_false_iff.mpr c84
                subst c84
                rw [if_neg (show ¬ (false = true) by decide)] at H
                rw [hrt] at H
                exact absurd H (by simp)
              ·
               replace c82 := Bool.eq_false_iff.mpr c82
               subst c82
               rw [if_neg (show ¬ (false = true) by decide)] at H
               rw [hrt] at H
               exact absurd H (by simp)
             ·
              replace c81 := Bool.eq_false_iff.mpr c81
              subst c81
              rw [if_neg (show ¬ (false = true) by decide)] at H
              rw [hrt] at H
              exact absurd H (by simp)
            ·
             replace c80 := Bool.eq_false_iff.mpr c80
             subst c80
             rw [if_neg (show ¬ (false = true) by decide)] at H
             rw [hrt] at H
             exact absurd H (by simp)
           ·
            replace c79 := Bool.eq_false_iff.mpr c79
            subst c79
            rw [if_neg (show ¬ (false = true) by decide)] at H
            rw [hrt] at H
            exact absurd H (by simp)
          ·
           rw [if_neg c72] at H
           exact absurd H (by simp)
         ·
          rw [if_neg c71] at H
          exact absurd H (by simp)
     ·
      replace c39 := Bool.eq_false_iff.mpr c39
      subst c39
      rw [if_neg (show ¬ (false = true) by decide)] at H
      by_cases q0 : (c6.length : Int) = 0
      ·
       rw [if_pos q0] at H
       have B9 := beq_iff_eq.mpr q0; have C0 := bne_eq_false_iff_eq.mpr q0; clear q0; obtain ⟨Y1, Y2, H⟩ := bindA H; (try dsimp only at H); obtain rfl := Option.some.inj H; have Y3 := k8.out; have Y4 := h9.out; have Y5 := i1.out; have Y6 := m1.out; obtain ⟨M1, M2, M3⟩ := cc3_ a6.out; obtain ⟨M4, M5, M6⟩ := cf3_ a6.out
       go_wp2_with (first | (go_at_call 14; (with_reducible refine (laws_eaOk.calls  Y1 _ Y2.out).mono ?_); rintro e w152 ⟨rfl, hb⟩; replace a9 := yaa (yah (upR a9.out) hb); replace a1 := yaa (yaj (upQ a1.out) hb); replace a2 := yaa (yaj (upQ a2.out) hb); replace a4 := yaa (yaj (upQ a4.out) hb); replace a5 := yaa (yac (upB a5.out) hb); replace a6 := yaa (yac (upB a6.out) hb); replace a8 := yaa (yac (upB a8.out) hb); replace HB := yaa (ybg (by repeat (with_reducible first | exact HB.out | apply yae | apply yab | apply yad | refine yal ?_ (Aside0.out ‹_›))) hb); (try clear hb)))
       go_ret
       exact ⟨by first | rfl | (simp [*, errW_none, errW_some] <;> rfl), by repeat (with_reducible first | exact HB.out | apply yae | apply yab | apply yad | refine yal ?_ (Aside0.out ‹_›))⟩
      ·
       rw [if_neg q0] at H
       have B9 := beq_eq_false_iff_ne.mpr q0; have C0 := bne_iff_ne.mpr q0; have Y7 : ¬ (c6 = []) := fun h_ => q0 (by rw [h_]; rfl)
       rw [hrt] at H
       exact absurd H (by simp)
def laws_FnOpsDo.Pure : Prop := ∀ (l0 : List Int), l0.length ≤ maxLen → l0.length * 1 ≤ 140737488351232 → (∀ x ∈ l0, (Lit.int .u8 x).wf = true) → ∃ k, laws_FnOpsDo.f k l0 = some true
theorem laws_FnOpsDo.walk (P : laws_FnOpsDo.Pure) (a0 : Option Addr) (len0 cap0 : Nat) (z0 : List Int) (w : World) (w0 : (a0 = none ∧ len0 = 0 ∧ cap0 = 0 ∧ z0 = []) ∨ ∃ x, a0 = some x ∧ len0 ≤ cap0 ∧ cap0 ≤ maxLen ∧ z0.length = cap0 ∧ (∀ i, i < z0.length → w.cell? (x.add i) = some (.int .u8 (z0.getD i 0))) ∧ ∀ n ∈ z0, (Lit.int .u8 n).wf = true) (y0 : len0 * 1 ≤ 140737488351232) :
  Calls Try.prog 8 #[.slice a0 len0 cap0] w fun e w' => e = .returned (.bool true) ∧ Below w.heap.size w w' := by
 obtain ⟨l0, rfl, hr0, hm0, hw0, hc0⟩ := ReadsInt.ofRowC w0; obtain ⟨k, h⟩ := P l0 hm0 y0 hw0
 refine (laws_FnOpsDo.calls k _ _ l0 true w (Kd.C_of_reads (d := (0 : Int)) (h1 := fun _ => rfl) hr0) hc0 h rfl).mono ?_
 rintro e w' ⟨rfl, hd⟩
 exact ⟨rfl, hd⟩
end
end Go.Proofs.Ytoifpgkfpdeglaa.X
namespace Go.Proofs.Ytoifpgkfpdeglaa.X
open Go.RowKit Go.Proofs.YtoifpgkfpdeglaaW.PrintWords Go.Proofs.Ytoifpgkfpdeglaa.Pl
set_option linter.unusedSimpArgs false
set_option linter.unusedVariables false
theorem mk_succ (w h : Nat) (f : Nat → Nat → Pix) : mk w (h + 1) f = mk w h f ++ (List.range' 0 w).map fun x => f x h := by
  unfold mk
  rw [Nat.mul_add, Nat.mul_one, List.range_add, List.map_append, List.map_map, ← List.range_eq_range']
  congr 1
  apply List.map_congr_left
  intro x hx
  have hx' := List.mem_range.1 hx
  show f ((w * h + x) % w) ((w * h + x) / w) = f x h
  rw [Nat.mul_add_mod, Nat.mod_eq_of_lt hx', Nat.mul_add_div (by omega), Nat.div_eq_of_lt hx', Nat.add_zero]
theorem mk_zero (w : Nat) (f : Nat → Nat → Pix) : mk w 0 f = [] := by unfold mk; simp
theorem ev_rows {β : Type} (w h : Nat) (f : Nat → Nat → Pix) (g0 : Nat → Nat → List Pix → Option β) (g1 : Nat → Nat → Nat → List Pix → Option β) (R : β) (hw : w ≤ 6) (hh : h ≤ 6)
    (hstart : ∀ i s r, i < h → Ev (fun k => g1 k i 0 s) r → Ev (fun k => g0 k i s) r)
    (hin : ∀ i j s r, i < h → j < w → s.length ≤ 10000 → Ev (fun k => g1 k i (j + 1) (s ++ [f j i])) r → Ev (fun k => g1 k i j s) r)
    (hout : ∀ i s r, i < h → Ev (fun k => g0 k (i + 1) s) r → Ev (fun k => g1 k i w s) r)
    (hend : Ev (fun k => g0 k h (mk w h f)) R) : Ev (fun k => g0 k 0 []) R := by
  have inner : ∀ i, i < h → ∀ d j, j + d = w → ∀ (s : List Pix) r, s.length + d ≤ 10000 → Ev (fun k => g1 k i w (s ++ (List.range' j d).map fun x => f x i)) r → Ev (fun k => g1 k i j s) r := by
    intro i hi d
    induction d with
    | zero => intro j hj s r _ h; obtain rfl : j = w := by omega
              simpa using h
    | succ d ih =>
      intro j hj s r hs h
      refine hin i j s r hi (by omega) (by omega) (ih (j + 1) (by omega) _ r (by rw [List.length_append]; simp only [List.length_cons, List.length_nil]; omega) ?_)
      rw [List.range'_succ, List.map_cons] at h
      rw [List.append_assoc, List.singleton_append]
      exact h
  have outer : ∀ d i, i + d = h → Ev (fun k => g0 k i (mk w i f)) R := by
    intro d
    induction d with
    | zero => intro i hi; obtain rfl : i = h := by omega
              exact hend
    | succ d ih =>
      intro i hi
      have hm : w * i ≤ 6 * 6 := Nat.mul_le_mul hw (by omega)
      refine hstart i _ R (by omega) (inner i (by omega) w 0 (by omega) _ R (by rw [mk_length]; omega) (hout i _ R (by omega) ?_))
      rw [← mk_succ]
      exact ih (i + 1) (by omega)
  have := outer h 0 (by omega)
  rwa [mk_zero] at this
theorem ev_line {β : Type} (n : Nat) (F : Nat → Pix) (g : Nat → Nat → List Pix → Option β) (R : β) (hn : n ≤ 10000)
    (hstep : ∀ i s r, i < n → s.length = i → Ev (fun k => g k (i + 1) (s ++ [F i])) r → Ev (fun k => g k i s) r)
    (hend : Ev (fun k => g k n ((List.range n).map F)) R) : Ev (fun k => g k 0 []) R := by
  have outer : ∀ d i, i + d = n → Ev (fun k => g k i ((List.range i).map F)) R := by
    intro d
    induction d with
    | zero => intro i hi; obtain rfl : i = n := by omega
              exact hend
    | succ d ih =>
      intro i hi
      refine hstep i _ R (by omega) (by simp) ?_
      have := ih (i + 1) (by omega)
      rwa [List.range_succ, List.map_append] at this
  exact outer n 0 (by omega)
theorem wadd {a b : Nat} (h : a + b ≤ 1000000) : wrap64 ((a : Int) + (b : Int)) = ((a + b : Nat) : Int) := by rw [← Int.natCast_add]; exact wrap_id (by omega) (by omega)
theorem wadd1 {a : Nat} (h : a ≤ 999999) : wrap64 ((a : Int) + 1) = ((a + 1 : Nat) : Int) := wadd (a := a) (b := 1) (by omega)
theorem wmul {a b : Nat} (h : a * b ≤ 1000000) : wrap64 ((a : Int) * (b : Int)) = ((a * b : Nat) : Int) := by
  rw [← Int.natCast_mul]; exact wrap_id (Int.le_trans (by decide) (Int.natCast_nonneg _)) (Int.le_trans (Int.ofNat_le.2 h) (by decide))
theorem wmul2 {b : Nat} (h : b ≤ 1000) : wrap64 (2 * (b : Int)) = ((2 * b : Nat) : Int) := wmul (a := 2) (b := b) (by omega)
theorem wsub {a b : Nat} (h : b ≤ a) (ha : a ≤ 1000000) : wrap64 ((a : Int) - (b : Int)) = ((a - b : Nat) : Int) := by rw [← Int.ofNat_sub h]; exact wrap_id (by omega) (by omega)
theorem wsub1 {a : Nat} (h : 1 ≤ a) (ha : a ≤ 1000000) : wrap64 ((a : Int) - 1) = ((a - 1 : Nat) : Int) := wsub (b := 1) h ha
theorem wdiv {a b : Nat} (ha : a ≤ 1000000) : wrap64 (Int.tdiv (a : Int) (b : Int)) = ((a / b : Nat) : Int) := by
  rw [show Int.tdiv (a : Int) (b : Int) = ((a / b : Nat) : Int) from rfl]
  have := Nat.div_le_self a b
  exact wrap_id (Int.le_trans (by decide) (Int.natCast_nonneg _)) (Int.le_trans (Int.ofNat_le.2 (Nat.le_trans this ha)) (by decide))
theorem place_le {x y wd hg : Nat} (hw : wd ≤ 6) (hh : hg ≤ 6) (hy : y < hg) (hx : x < wd) : y * wd ≤ 36 ∧ y * wd + x ≤ 100 := by
  have : y * wd ≤ 6 * 6 := Nat.mul_le_mul (by omega) hw
  omega
theorem at_place {l : List Pix} {wd hg x y : Nat} (hl : l.length = wd * hg) (hx : x < wd) (hy : y < hg) : (0 : Int) ≤ ((y * wd + x : Nat) : Int) ∧ ((y * wd + x : Nat) : Int) < (l.length : Int) := by
  have := place_lt hx hy hl
  omega
theorem rd_pix (l : List Pix) (wd x y : Nat) : (⟨(rd_T36 l ((y * wd + x : Nat) : Int)).f0, (rd_T36 l ((y * wd + x : Nat) : Int)).f1, (rd_T36 l ((y * wd + x : Nat) : Int)).f2, (rd_T36 l ((y * wd + x : Nat) : Int)).f3⟩ : Pix) = pix l wd x y := rfl
theorem spec_l6Crop_ev {wd hg : Nat} {l : List Pix} (hv : Valid wd hg l) (o : Op) (h0 : o.f0 = 1) (ho : OkO o) (hm : hasM o wd hg = true) :
    Ev (fun k => spec_l6Crop.f k wd hg l o.f0 o.f1 o.f2 o.f3 o.f4) ((wideM o wd hg : Int), (highM o wd hg : Int), picM o wd hg l) := by
  obtain ⟨hw, hh, hl, -⟩ := hv
  have hbd : (0 ≤ o.f1 ∧ o.f1 ≤ 5) ∧ (0 ≤ o.f2 ∧ o.f2 ≤ 5) ∧ (1 ≤ o.f3 ∧ o.f3 ≤ 6) ∧ (1 ≤ o.f4 ∧ o.f4 ≤ 6) := by
    rcases ho with ⟨_, h⟩ | ⟨h, _⟩ | ⟨h, _⟩ | ⟨h, _⟩
    · exact h
    · omega
    · omega
    · omega
  have hc := hasM_crop hm h0
  obtain ⟨a0, a1, a2, a3, a4⟩ := o
  dsimp only at h0 hbd hc ⊢
  obtain ⟨A, rfl⟩ : ∃ n : Nat, a1 = n := ⟨a1.toNat, by omega⟩
  obtain ⟨B, rfl⟩ : ∃ n : Nat, a2 = n := ⟨a2.toNat, by omega⟩
  obtain ⟨C, rfl⟩ : ∃ n : Nat, a3 = n := ⟨a3.toNat, by omega⟩
  obtain ⟨D, rfl⟩ : ∃ n : Nat, a4 = n := ⟨a4.toNat, by omega⟩
  subst h0
  have e : picM ⟨1, A, B, C, D⟩ wd hg l = mk C D fun x y => pix l wd (A + x) (B + y) := rfl
  rw [e]
  refine ev_rows C D (fun x y => pix l wd (A + x) (B + y)) (fun k i s => spec_l6Crop.l0 k i wd hg l 1 A B C D C D s) (fun k i j s => spec_l6Crop.l1 k i j wd hg l 1 A B C D C D s) _ (by omega) (by omega) ?_ ?_ ?_ ?_
  · intro i s r hi h
    refine Ev.step (fun k => ?_) h
    simp only [spec_l6Crop.l0]
    rw [if_pos (by omega)]
    rfl
  · intro i j s r hi hj hs h
    refine Ev.step (fun k => ?_) h
    have hp := place_le hw.2 hh.2 (show B + i < hg by omega) (show A + j < wd by omega)
    have ha := at_place hl (show A + j < wd by omega) (show B + i < hg by omega)
    simp only [spec_l6Crop.l1]
    rw [if_pos (by omega), wadd (a := B) (b := i) (by omega), wmul (by omega), wadd (b := A) (by omega), wadd (b := j) (by omega), Nat.add_assoc, if_pos ha.1, if_pos ha.2, if_pos (by omega), wadd1 (by omega), rd_pix]
  · intro i s r hi h
    refine Ev.step (fun k => ?_) h
    simp only [spec_l6Crop.l1]
    rw [if_neg (by omega), wadd1 (by omega)]
  · refine ev_succ ⟨0, fun k _ => ?_⟩
    simp only [spec_l6Crop.l0]
    rw [if_neg (by omega)]
    rfl
theorem spec_l6FlipX_ev {wd hg : Nat} {l : List Pix} (hv : Valid wd hg l) : Ev (fun k => spec_l6FlipX.f k wd hg l) ((wd : Int), (hg : Int), picM ⟨2, 0, 0, 0, 0⟩ wd hg l) := by
  obtain ⟨hw, hh, hl, -⟩ := hv
  rw [picM_flipX]
  refine ev_rows wd hg (fun x y => pix l wd (wd - 1 - x) y) (fun k i s => spec_l6FlipX.l0 k i wd hg l wd hg s) (fun k i j s => spec_l6FlipX.l1 k i ((wd : Int) - 1 - j) wd hg l wd hg s) _ (by omega) (by omega) ?_ ?_ ?_ ?_
  · intro i s r hi h
    refine Ev.step (fun k => ?_) h
    simp only [spec_l6FlipX.l0]
    rw [if_pos (by omega), wsub1 (by omega) (by omega)]
    congr 1
    omega
  · intro i j s r hi hj hs h
    refine Ev.step (fun k => ?_) h
    have hp := place_le hw.2 hh.2 hi (show wd - 1 - j < wd by omega)
    have ha := at_place hl (show wd - 1 - j < wd by omega) hi
    have e1 : (wd : Int) - 1 - (j : Int) = ((wd - 1 - j : Nat) : Int) := by omega
    have e2 : wrap64 (((wd - 1 - j : Nat) : Int) - 1) = (wd : Int) - 1 - ((j + 1 : Nat) : Int) := by rw [wrap_id (by omega) (by omega)]; omega
    simp only [spec_l6FlipX.l1]
    rw [if_pos (by omega), e1, wmul (by omega), wadd (by omega), if_pos ha.1, if_pos ha.2, if_pos (by omega), e2, rd_pix]
  · intro i s r hi h
    refine Ev.step (fun k => ?_) h
    simp only [spec_l6FlipX.l1]
    rw [if_neg (by omega), wadd1 (by omega)]
  · refine ev_succ ⟨0, fun k _ => ?_⟩
    simp only [spec_l6FlipX.l0]
    rw [if_neg (by omega)]
theorem spec_l6Turn_ev {wd hg : Nat} {l : List Pix} (hv : Valid wd hg l) : Ev (fun k => spec_l6Turn.f k wd hg l) ((hg : Int), (wd : Int), picM ⟨4, 0, 0, 0, 0⟩ wd hg l) := by
  obtain ⟨hw, hh, hl, -⟩ := hv
  rw [picM_turn]
  refine ev_rows hg wd (fun x y => pix l wd y (hg - 1 - x)) (fun k i s => spec_l6Turn.l0 k i wd hg l hg wd s) (fun k i j s => spec_l6Turn.l1 k i j wd hg l hg wd s) _ (by omega) (by omega) ?_ ?_ ?_ ?_
  · intro i s r hi h
    refine Ev.step (fun k => ?_) h
    simp only [spec_l6Turn.l0]
    rw [if_pos (by omega)]
    rfl
  · intro i j s r hi hj hs h
    refine Ev.step (fun k => ?_) h
    have hp := place_le hw.2 hh.2 (show hg - 1 - j < hg by omega) hi
    have ha := at_place hl hi (show hg - 1 - j < hg by omega)
    simp only [spec_l6Turn.l1]
    rw [if_pos (by omega), wsub1 (by omega) (by omega), wsub (by omega) (by omega), wmul (by omega), wadd (by omega), if_pos ha.1, if_pos ha.2, if_pos (by omega), wadd1 (by omega), rd_pix]
  · intro i s r hi h
    refine Ev.step (fun k => ?_) h
    simp only [spec_l6Turn.l1]
    rw [if_neg (by omega), wadd1 (by omega)]
  · refine ev_succ ⟨0, fun k _ => ?_⟩
    simp only [spec_l6Turn.l0]
    rw [if_neg (by omega)]
theorem spec_l6Size_ev {wd hg : Nat} {l : List Pix} (hv : Valid wd hg l) {a b : Nat} (ha : 1 ≤ a ∧ a ≤ 6) (hb : 1 ≤ b ∧ b ≤ 6) : Ev (fun k => spec_l6Size.f k wd hg l 7 a b 0 0) ((a : Int), (b : Int), picM ⟨7, a, b, 0, 0⟩ wd hg l) := by
  obtain ⟨hw, hh, hl, -⟩ := hv
  have e : picM ⟨7, a, b, 0, 0⟩ wd hg l = mk a b fun x y => pix l wd ((2 * x + 1) * wd / (2 * a)) ((2 * y + 1) * hg / (2 * b)) := rfl
  rw [e]
  refine ev_rows a b (fun x y => pix l wd ((2 * x + 1) * wd / (2 * a)) ((2 * y + 1) * hg / (2 * b))) (fun k i s => spec_l6Size.l0 k i wd hg l 7 a b 0 0 a b s) (fun k i j s => spec_l6Size.l1 k i j wd hg l 7 a b 0 0 a b s) _ (by omega) (by omega) ?_ ?_ ?_ ?_
  · intro i s r hi h
    refine Ev.step (fun k => ?_) h
    simp only [spec_l6Size.l0]
    rw [if_pos (by omega)]
    rfl
  · intro i j s r hi hj hs h
    refine Ev.step (fun k => ?_) h
    have hx := scale_lt (n := a) hj (show 0 < wd by omega)
    have hy := scale_lt (n := b) hi (show 0 < hg by omega)
    have hp := place_le hw.2 hh.2 hy hx
    have hat := at_place hl hx hy
    have q1 : (2 * i + 1) * hg ≤ 13 * 6 := Nat.mul_le_mul (by omega) hh.2
    have q2 : (2 * j + 1) * wd ≤ 13 * 6 := Nat.mul_le_mul (by omega) hw.2
    simp only [spec_l6Size.l1]
    rw [if_pos (by omega), wmul2 (b := b) (by omega), if_neg (by omega), wmul2 (b := a) (by omega), if_neg (by omega), wmul2 (b := i) (by omega), wadd1 (by omega), wmul (by omega), wdiv (by omega), wmul2 (b := j) (by omega), wadd1 (by omega), wmul (a := 2 * j + 1) (b := wd) (by omega), wdiv (by omega), wmul (by omega), wadd (by omega), if_pos hat.1, if_pos hat.2, if_pos (by omega), wadd1 (by omega), rd_pix]
  · intro i s r hi h
    refine Ev.step (fun k => ?_) h
    simp only [spec_l6Size.l1]
    rw [if_neg (by omega), wadd1 (by omega)]
  · refine ev_succ ⟨0, fun k _ => ?_⟩
    simp only [spec_l6Size.l0]
    rw [if_neg (by omega)]
end Go.Proofs.Ytoifpgkfpdeglaa.X
namespace Go.Proofs.Ytoifpgkfpdeglaa.X
open Go.RowKit Go.Proofs.YtoifpgkfpdeglaaW.PrintWords Go.Proofs.Ytoifpgkfpdeglaa.Pl
set_option linter.unusedSimpArgs false
set_option linter.unusedVariables false
theorem ev_blocks {β : Type} (w h : Nat) (f : Nat → Nat → Pix) (g : Nat → Nat → List Pix → Option β) (R : β) (hw : w ≤ 6) (hh : h ≤ 6)
    (hstep : ∀ i s r, i < h → s.length ≤ 10000 → Ev (fun k => g k (i + 1) (s ++ (List.range' 0 w).map fun x => f x i)) r → Ev (fun k => g k i s) r)
    (hend : Ev (fun k => g k h (mk w h f)) R) : Ev (fun k => g k 0 []) R := by
  have outer : ∀ d i, i + d = h → Ev (fun k => g k i (mk w i f)) R := by
    intro d
    induction d with
    | zero => intro i hi; obtain rfl : i = h := by omega
              exact hend
    | succ d ih =>
      intro i hi
      have hm : w * i ≤ 6 * 6 := Nat.mul_le_mul hw (by omega)
      refine hstep i _ R (by omega) (by rw [mk_length]; omega) ?_
      rw [← mk_succ]
      exact ih (i + 1) (by omega)
  have := outer h 0 (by omega)
  rwa [mk_zero] at this
theorem row_eq {wd hg y : Nat} {l : List Pix} (hl : l.length = wd * hg) (hy : y < hg) : (l.take ((y + 1) * wd)).drop (y * wd) = (List.range' 0 wd).map fun x => pix l wd x y := by
  have h1 : (y + 1) * wd ≤ hg * wd := Nat.mul_le_mul_right _ (by omega)
  have h2 : (y + 1) * wd = y * wd + wd := by rw [Nat.add_mul, Nat.one_mul]
  have h3 : hg * wd = l.length := by rw [hl, Nat.mul_comm]
  rw [← List.range_eq_range']
  apply List.ext_getElem?
  intro i
  rw [List.getElem?_drop, List.getElem?_take, List.getElem?_map]
  by_cases hi : i < wd
  · rw [if_pos (by omega), List.getElem?_range hi, List.getElem?_eq_getElem (by omega)]
    unfold pix
    rw [Option.map_some, List.getD_eq_getElem?_getD, List.getElem?_eq_getElem (by omega)]
    rfl
  · rw [if_neg (by omega), List.getElem?_eq_none (by simp; omega)]
    rfl
theorem spec_l5Flip_ev {wd hg : Nat} {l : List Pix} (hv : Valid wd hg l) : Ev (fun k => spec_l5Flip.f k wd hg l) ((wd : Int), (hg : Int), picM ⟨3, 0, 0, 0, 0⟩ wd hg l) := by
  obtain ⟨hw, hh, hl, -⟩ := hv
  rw [picM_flipY]
  have := ev_blocks wd hg (fun x y => pix l wd x (hg - 1 - y)) (fun k i s => spec_l5Flip.l0 k ((hg : Int) - 1 - i) wd hg l wd hg s) ((wd : Int), (hg : Int), mk wd hg fun x y => pix l wd x (hg - 1 - y)) (by omega) (by omega) ?_ ?_
  · refine Ev.congr (fun k => ?_) this
    show spec_l5Flip.f k wd hg l = _
    unfold spec_l5Flip.f
    rw [wrap_id (x := (hg : Int) - 1) (by omega) (by omega)]
    congr 1
    omega
  · intro i s r hi hs h
    refine Ev.step (fun k => ?_) h
    have e1 : (hg : Int) - 1 - (i : Int) = ((hg - 1 - i : Nat) : Int) := by omega
    have e2 : wrap64 (((hg - 1 - i : Nat) : Int) - 1) = (hg : Int) - 1 - ((i + 1 : Nat) : Int) := by rw [wrap_id (by omega) (by omega)]; omega
    have q1 : (hg - 1 - i) * wd ≤ 6 * 6 := Nat.mul_le_mul (by omega) hw.2
    have q2 : (hg - 1 - i + 1) * wd ≤ 7 * 6 := Nat.mul_le_mul (by omega) hw.2
    have h1 : (hg - 1 - i + 1) * wd ≤ hg * wd := Nat.mul_le_mul_right _ (by omega)
    have h2 : (hg - 1 - i + 1) * wd = (hg - 1 - i) * wd + wd := by rw [Nat.add_mul, Nat.one_mul]
    have h3 : hg * wd = l.length := by rw [hl, Nat.mul_comm]
    have hr := row_eq (y := hg - 1 - i) hl (by omega)
    have hlen : ((l.take ((hg - 1 - i + 1) * wd)).drop ((hg - 1 - i) * wd)).length ≤ 100 := by rw [hr]; simp; omega
    simp only [spec_l5Flip.l0]
    rw [if_pos (by omega), e1, wmul (by omega), wadd1 (by omega), wmul (by omega), if_pos (by omega), if_pos (by omega), if_pos (by omega), Option.bind_some, Int.toNat_natCast, Int.toNat_natCast, if_pos (by omega), e2, hr]
  · refine ev_succ ⟨0, fun k _ => ?_⟩
    simp only [spec_l5Flip.l0]
    rw [if_neg (by omega)]
theorem mnmx (a b : Int) : mn a b = (if b < a then b else a) ∧ mx a b = (if a < b then b else a) := ⟨rfl, rfl⟩
theorem mean_inner (l : List Pix) {wd hg x y Y : Nat} (hl : l.length = wd * hg) (hw : wd ≤ 6) (hh : hg ≤ 6) (hx : x < wd) (hY : Y < hg) (r : Int × Int × Int × Int) : ∀ d X C (s : Pix), X + d = nearLo x + nearMany x wd → C + d ≤ 1000 →
    Ev (fun k => spec_l6Mean.l0 k x y ((C + d : Nat) : Int) ((Y + 1 : Nat) : Int) wd hg l (rowSum l wd Y X d s).f0 (rowSum l wd Y X d s).f1 (rowSum l wd Y X d s).f2 (rowSum l wd Y X d s).f3) r →
    Ev (fun k => spec_l6Mean.l1 k x y C Y X wd hg l s.f0 s.f1 s.f2 s.f3) r := by
  have hn := nearMany_pos hx
  have hmin : mn (wrap64 ((wd : Int) - 1)) (wrap64 ((x : Int) + 1)) = ((nearLo x + nearMany x wd : Nat) : Int) - 1 := by
    rw [wrap_id (x := (wd : Int) - 1) (by omega) (by omega), wrap_id (x := (x : Int) + 1) (by omega) (by omega), (mnmx _ _).1, hn.2.1]
    split <;> omega
  intro d
  induction d with
  | zero =>
    intro X C s hX hC h
    refine Ev.step (fun k => ?_) h
    simp only [spec_l6Mean.l1]
    rw [hmin, if_neg (by omega), wadd1 (by omega)]
    rfl
  | succ d ih =>
    intro X C s hX hC h
    have hXw : X < wd := near_lt hx (by omega)
    have hp := place_le hw hh hY hXw
    have ha := at_place hl hXw hY
    have := ih (X + 1) (C + 1) (addP s (pix l wd X Y)) (by omega) (by omega) (by rw [show C + 1 + d = C + (d + 1) by omega]; exact h)
    refine Ev.step (fun k => ?_) this
    simp only [spec_l6Mean.l1]
    rw [hmin, if_pos (by omega), wmul (by omega), wadd (by omega), if_pos ha.1, if_pos ha.2, wadd1 (by omega), wadd1 (by omega)]
    rfl
theorem mean_outer (l : List Pix) {wd hg x y : Nat} (hl : l.length = wd * hg) (hw : wd ≤ 6) (hh : hg ≤ 6) (hx : x < wd) (hy : y < hg) : ∀ d Y C (s : Pix), Y + d = nearLo y + nearMany y hg → C + d * nearMany x wd = nearMany y hg * nearMany x wd →
    Ev (fun k => spec_l6Mean.l0 k x y C Y wd hg l s.f0 s.f1 s.f2 s.f3) ((meanP (boxSum l wd (nearLo x) (nearMany x wd) Y d s) (nearMany y hg * nearMany x wd)).f0, (meanP (boxSum l wd (nearLo x) (nearMany x wd) Y d s) (nearMany y hg * nearMany x wd)).f1, (meanP (boxSum l wd (nearLo x) (nearMany x wd) Y d s) (nearMany y hg * nearMany x wd)).f2, (meanP (boxSum l wd (nearLo x) (nearMany x wd) Y d s) (nearMany y hg * nearMany x wd)).f3) := by
  have hn := nearMany_pos hy
  have hnx := nearMany_pos hx
  have hmb := many_bd hx hy
  have hmin : mn (wrap64 ((hg : Int) - 1)) (wrap64 ((y : Int) + 1)) = ((nearLo y + nearMany y hg : Nat) : Int) - 1 := by
    rw [wrap_id (x := (hg : Int) - 1) (by omega) (by omega), wrap_id (x := (y : Int) + 1) (by omega) (by omega), (mnmx _ _).1, hn.2.1]
    split <;> omega
  have hmax : mx 0 (wrap64 ((x : Int) - 1)) = ((nearLo x : Nat) : Int) := by
    rw [wrap_id (x := (x : Int) - 1) (by omega) (by omega), (mnmx _ _).2]
    unfold nearLo
    split <;> omega
  intro d
  induction d with
  | zero =>
    intro Y C s hY hC
    rw [Nat.zero_mul, Nat.add_zero] at hC
    refine ev_succ ⟨0, fun k _ => ?_⟩
    simp only [spec_l6Mean.l0]
    rw [hmin, if_neg (by omega), if_neg (by omega), hC]
    rfl
  | succ d ih =>
    intro Y C s hY hC
    have hC' : C + nearMany x wd + d * nearMany x wd = nearMany y hg * nearMany x wd := by rw [Nat.add_mul, Nat.one_mul] at hC; omega
    have := mean_inner l hl hw hh hx (show Y < hg from near_lt hy (by omega)) _ (nearMany x wd) (nearLo x) C s rfl (by omega) (ih (Y + 1) (C + nearMany x wd) (rowSum l wd Y (nearLo x) (nearMany x wd) s) (by omega) hC')
    refine Ev.step (fun k => ?_) this
    simp only [spec_l6Mean.l0]
    rw [hmin, hmax, if_pos (by omega)]
theorem spec_l6Mean_ev (l : List Pix) {wd hg x y : Nat} (hl : l.length = wd * hg) (hw : wd ≤ 6) (hh : hg ≤ 6) (hx : x < wd) (hy : y < hg) :
    Ev (fun k => spec_l6Mean.f k wd hg l x y) ((blurP l wd hg x y).f0, (blurP l wd hg x y).f1, (blurP l wd hg x y).f2, (blurP l wd hg x y).f3) := by
  have h := mean_outer l hl hw hh hx hy (nearMany y hg) (nearLo y) 0 z36 rfl (by omega)
  have hmax : mx 0 (wrap64 ((y : Int) - 1)) = ((nearLo y : Nat) : Int) := by
    rw [wrap_id (x := (y : Int) - 1) (by omega) (by omega), (mnmx _ _).2]
    unfold nearLo
    split <;> omega
  refine Ev.congr (fun k => ?_) h
  show spec_l6Mean.f k wd hg l x y = _
  unfold spec_l6Mean.f
  rw [hmax]
  rfl
theorem each_ev {wd hg : Nat} {l : List Pix} (hv : Valid wd hg l) (o0 o1 o2 o3 o4 : Int) (F : Nat → Nat → Pix)
    (hstep : ∀ i (s : List Pix) r, i < l.length → s.length = i → Ev (fun k => spec_l6Each.l0 k ((i + 1 : Nat) : Int) wd hg l o0 o1 o2 o3 o4 wd hg (s ++ [F (i % wd) (i / wd)])) r → Ev (fun k => spec_l6Each.l0 k (i : Int) wd hg l o0 o1 o2 o3 o4 wd hg s) r) :
    Ev (fun k => spec_l6Each.f k wd hg l o0 o1 o2 o3 o4) ((wd : Int), (hg : Int), mk wd hg F) := by
  obtain ⟨hw, hh, hl, -⟩ := hv
  have hle : wd * hg ≤ 6 * 6 := Nat.mul_le_mul hw.2 hh.2
  have := ev_line l.length (fun i => F (i % wd) (i / wd)) (fun k i s => spec_l6Each.l0 k i wd hg l o0 o1 o2 o3 o4 wd hg s) ((wd : Int), (hg : Int), mk wd hg F) (by omega) hstep ?_
  · exact this
  · refine ev_succ ⟨0, fun k _ => ?_⟩
    simp only [spec_l6Each.l0]
    rw [if_neg (by omega), hl]
    rfl
theorem rd_at {l : List Pix} {wd i : Nat} : rd_T36 l (i : Int) = pix l wd (i % wd) (i / wd) := by
  unfold pix
  rw [show i / wd * wd + i % wd = i by rw [Nat.mul_comm]; exact Nat.div_add_mod i wd]
  rfl
theorem spec_gray_ev {wd hg : Nat} {l : List Pix} (hv : Valid wd hg l) (a b c d : Int) : Ev (fun k => spec_l6Each.f k wd hg l 5 a b c d) ((wd : Int), (hg : Int), eachM grayP wd hg l) := by
  refine each_ev hv 5 a b c d (fun x y => grayP (pix l wd x y)) ?_
  have hle : wd * hg ≤ 6 * 6 := Nat.mul_le_mul hv.1.2 hv.2.1.2
  have hl := hv.2.2.1
  intro i s r hi hs h
  refine Ev.step (fun k => ?_) h
  rw [spec_l6Each.l0, if_pos (by omega), if_pos rfl, if_pos (by omega), rd_at (wd := wd)]
  show (if s.length < 4398046511104 then _ else none) = _
  rw [if_pos (by omega), wadd1 (by omega)]
  rfl
theorem spec_flat_ev {wd hg : Nat} {l : List Pix} (hv : Valid wd hg l) (a b c d : Int) : Ev (fun k => spec_l6Each.f k wd hg l 8 a b c d) ((wd : Int), (hg : Int), eachM (flatP a b c) wd hg l) := by
  refine each_ev hv 8 a b c d (fun x y => flatP a b c (pix l wd x y)) ?_
  have hle : wd * hg ≤ 6 * 6 := Nat.mul_le_mul hv.1.2 hv.2.1.2
  have hl := hv.2.2.1
  intro i s r hi hs h
  refine Ev.step (fun k => ?_) h
  rw [spec_l6Each.l0, if_pos (by omega), if_neg (by decide), if_neg (by decide), if_pos (by omega), rd_at (wd := wd)]
  show (if s.length < 4398046511104 then _ else none) = _
  rw [if_pos (by omega), wadd1 (by omega)]
  rfl
theorem spec_blur_ev {wd hg : Nat} {l : List Pix} (hv : Valid wd hg l) (a b c d : Int) : Ev (fun k => spec_l6Each.f k wd hg l 6 a b c d) ((wd : Int), (hg : Int), mk wd hg (blurP l wd hg)) := by
  refine each_ev hv 6 a b c d (blurP l wd hg) ?_
  have hle : wd * hg ≤ 6 * 6 := Nat.mul_le_mul hv.1.2 hv.2.1.2
  have hl := hv.2.2.1
  intro i s r hi hs h
  have hmd := mod_div_lt (show i < wd * hg by omega)
  obtain ⟨K1, h1⟩ := spec_l6Mean_ev l hl hv.1.2 hv.2.1.2 hmd.1 hmd.2
  obtain ⟨K2, h2⟩ := h
  refine ⟨K1 + K2 + 1, fun n hn => ?_⟩
  obtain ⟨m, rfl⟩ : ∃ m, n = m + 1 := ⟨n - 1, by omega⟩
  have e1 := h1 m (by omega)
  have e2 := h2 m (by omega)
  dsimp only at e1 e2 ⊢
  have t1 : Int.tmod (i : Int) (wd : Int) = ((i % wd : Nat) : Int) := rfl
  rw [spec_l6Each.l0, if_pos (by omega), if_neg (by decide), if_pos rfl, if_neg (by have := hv.1.1; omega), t1, wdiv (by omega), e1]
  show (if s.length < 4398046511104 then _ else none) = _
  rw [if_pos (by omega), wadd1 (by omega)]
  exact e2
theorem spec_l6Do_ev {wd hg : Nat} {l : List Pix} (hv : Valid wd hg l) {o : Op} (ho : OkO o) :
    Ev (fun k => spec_l6Do.f k wd hg l o.f0 o.f1 o.f2 o.f3 o.f4) (if hasM o wd hg then ((wideM o wd hg : Int), (highM o wd hg : Int), picM o wd hg l, true) else (0, 0, [], false)) := by
  have hw := hv.1
  have hh := hv.2.1
  have hok := ho
  rcases ho with ⟨h0, b1, b2, b3, b4⟩ | ⟨h0, z1, z2, z3, z4⟩ | ⟨h0, b1, b2, z3, z4⟩ | ⟨h0, b1, b2, b3, z4⟩
  · have e1 : wrap64 (o.f1 + o.f3) = o.f1 + o.f3 := wrap_id (by omega) (by omega)
    have e2 : wrap64 (o.f2 + o.f4) = o.f2 + o.f4 := wrap_id (by omega) (by omega)
    by_cases hm : hasM o wd hg = true
    · have hc := hasM_crop hm h0
      obtain ⟨K, h⟩ := spec_l6Crop_ev hv o h0 hok hm
      refine ⟨K + 1, fun n hn => ?_⟩
      obtain ⟨m, rfl⟩ : ∃ m, n = m + 1 := ⟨n - 1, by omega⟩
      have := h m (by omega)
      dsimp only at this ⊢
      unfold spec_l6Do.f
      rw [if_pos h0, e1, e2, if_neg (by omega), if_pos hm]
      simp only [spec_l6Do.j0]
      rw [if_neg (by simp; omega), this]
      rfl
    · rw [if_neg hm]
      have hm' : ¬ (o.f1 + o.f3 ≤ wd ∧ o.f2 + o.f4 ≤ hg) := by
        intro hc
        apply hm
        unfold hasM
        rw [if_pos h0]
        simp [hc]
      refine ev_succ ⟨0, fun k _ => ?_⟩
      unfold spec_l6Do.f
      dsimp only
      rw [if_pos h0, e1, e2]
      by_cases hx : o.f1 + o.f3 > (wd : Int)
      · rw [if_pos hx]
        simp only [spec_l6Do.j0, if_true]
      · rw [if_neg hx]
        simp only [spec_l6Do.j0]
        rw [if_pos (by simp; omega)]
  · have hm : hasM o wd hg = true := by unfold hasM; rw [if_neg (by omega)]
    obtain ⟨a0, a1, a2, a3, a4⟩ := o
    dsimp only at h0 z1 z2 z3 z4 ⊢
    subst z1 z2 z3 z4
    rw [if_pos hm]
    have : a0 = 2 ∨ a0 = 3 ∨ a0 = 4 ∨ a0 = 5 ∨ a0 = 6 := by omega
    rcases this with rfl | rfl | rfl | rfl | rfl
    · obtain ⟨K, h⟩ := spec_l6FlipX_ev hv
      exact ⟨K, fun n hn => by have := h n hn; dsimp only at this ⊢; unfold spec_l6Do.f; rw [if_neg (by decide), if_pos rfl, this]; rfl⟩
    · obtain ⟨K, h⟩ := spec_l5Flip_ev hv
      exact ⟨K, fun n hn => by have := h n hn; dsimp only at this ⊢; unfold spec_l6Do.f; rw [if_neg (by decide), if_neg (by decide), if_pos rfl, this]; rfl⟩
    · obtain ⟨K, h⟩ := spec_l6Turn_ev hv
      exact ⟨K, fun n hn => by have := h n hn; dsimp only at this ⊢; unfold spec_l6Do.f; rw [if_neg (by decide), if_neg (by decide), if_neg (by decide), if_pos rfl, this]; rfl⟩
    · obtain ⟨K, h⟩ := spec_gray_ev hv 0 0 0 0
      exact ⟨K, fun n hn => by have := h n hn; dsimp only at this ⊢; unfold spec_l6Do.f; rw [if_neg (by decide), if_neg (by decide), if_neg (by decide), if_neg (by decide), if_neg (by decide), this]; rfl⟩
    · obtain ⟨K, h⟩ := spec_blur_ev hv 0 0 0 0
      exact ⟨K, fun n hn => by have := h n hn; dsimp only at this ⊢; unfold spec_l6Do.f; rw [if_neg (by decide), if_neg (by decide), if_neg (by decide), if_neg (by decide), if_neg (by decide), this]; rfl⟩
  · have hm : hasM o wd hg = true := by unfold hasM; rw [if_neg (by omega)]
    obtain ⟨a0, a1, a2, a3, a4⟩ := o
    dsimp only at h0 b1 b2 z3 z4 ⊢
    obtain ⟨A, rfl⟩ : ∃ n : Nat, a1 = n := ⟨a1.toNat, by omega⟩
    obtain ⟨B, rfl⟩ : ∃ n : Nat, a2 = n := ⟨a2.toNat, by omega⟩
    subst h0 z3 z4
    rw [if_pos hm]
    obtain ⟨K, h⟩ := spec_l6Size_ev hv (a := A) (b := B) (by omega) (by omega)
    exact ⟨K, fun n hn => by have := h n hn; dsimp only at this ⊢; unfold spec_l6Do.f; rw [if_neg (by decide), if_neg (by decide), if_neg (by decide), if_neg (by decide), if_pos rfl, this]; rfl⟩
  · have hm : hasM o wd hg = true := by unfold hasM; rw [if_neg (by omega)]
    obtain ⟨a0, a1, a2, a3, a4⟩ := o
    dsimp only at h0 b1 b2 b3 z4 ⊢
    subst h0 z4
    rw [if_pos hm]
    obtain ⟨K, h⟩ := spec_flat_ev hv a1 a2 a3 0
    exact ⟨K, fun n hn => by have := h n hn; dsimp only at this ⊢; unfold spec_l6Do.f; rw [if_neg (by decide), if_neg (by decide), if_neg (by decide), if_neg (by decide), if_neg (by decide), this]; rfl⟩
end Go.Proofs.Ytoifpgkfpdeglaa.X
namespace Go.Proofs.Ytoifpgkfpdeglaa.X
open Go.RowKit Go.Proofs.YtoifpgkfpdeglaaW.PrintWords Go.Proofs.Ytoifpgkfpdeglaa.Pl
set_option linter.unusedSimpArgs false
theorem bits_xor_nonneg (a b : Int) (ha : 0 ≤ a) (ha' : a < 4611686018427387904) (hb : 0 ≤ b) (hb' : b < 4611686018427387904) : 0 ≤ Go.bits .xor .i64 a b ∧ Go.bits .xor .i64 a b < 4611686018427387904 := by
  obtain ⟨m, rfl⟩ := Int.eq_ofNat_of_zero_le ha
  obtain ⟨n, rfl⟩ := Int.eq_ofNat_of_zero_le hb
  have h1 : m < 2 ^ 62 := by omega
  have h2 : n < 2 ^ 62 := by omega
  have hx : m ^^^ n < 2 ^ 62 := Nat.xor_lt_two_pow h1 h2
  have hm : m % 2 ^ 64 = m := Nat.mod_eq_of_lt (by omega)
  have hn : n % 2 ^ 64 = n := Nat.mod_eq_of_lt (by omega)
  have e : Go.bits .xor .i64 (m : Int) (n : Int) = ((m ^^^ n : Nat) : Int) := by
    have hb : (BitVec.ofNat 64 m ^^^ BitVec.ofNat 64 n).toNat = m ^^^ n := by rw [BitVec.toNat_xor, BitVec.toNat_ofNat, BitVec.toNat_ofNat, hm, hn]
    simp only [Go.bits, IntKind.bits, BitVec.ofInt_natCast]
    rw [IntKind.wrap_i64]
    change (((BitVec.ofNat 64 m ^^^ BitVec.ofNat 64 n).toNat : Int) + 9223372036854775808) % 18446744073709551616 - 9223372036854775808 = _
    rw [hb]
    omega
  rw [e]
  omega
def Bytes (l : List Int) : Prop := l.length ≤ 2000 ∧ ∀ y ∈ l, 0 ≤ y ∧ y ≤ 255
theorem bytes_rd {l : List Int} (h : Bytes l) (i : Int) : 0 ≤ rd l i ∧ rd l i ≤ 255 := by
  unfold rd
  by_cases hi : i.toNat < l.length
  · exact h.2 _ (getD_mem l 0 i.toNat hi)
  · rw [List.getD_eq_getElem?_getD, List.getElem?_eq_none (by omega)]
    simp
theorem tmod_bd (a n : Int) (ha : 0 ≤ a) (hn : 0 < n) : 0 ≤ Int.tmod a n ∧ Int.tmod a n < n := by
  rw [Int.tmod_eq_emod_of_nonneg ha]
  exact ⟨Int.emod_nonneg _ (by omega), Int.emod_lt_of_pos _ hn⟩
theorem pick_ev (l : List Int) (hl : Bytes l) (p n : Int) (h0 : 0 ≤ p) (h1 : p ≤ 1000000000000) :
    ∃ r, Ev (fun k => spec_l20Rd_pick.f k l p n) (r, p + 1) ∧ 0 ≤ r ∧ (1 ≤ n → r < n) ∧ (n < 1 → r = 0) := by
  have w1 : wrap64 (p + 1) = p + 1 := wrap_id (by omega) (by omega)
  have w2 : wrap64 (p + 1 - 1) = p := by rw [show p + 1 - 1 = p by omega]; exact wrap_id (by omega) (by omega)
  by_cases hn : n < 1
  · refine ⟨0, ev_succ ⟨0, fun k _ => ?_⟩, by omega, fun h => absurd h (by omega), fun _ => rfl⟩
    simp [spec_l20Rd_pick.f, hn, spec_l20Rd_pick.j0, w1]
  have hne : ¬ (n = 0) := by omega
  by_cases hz : l.length = 0
  · refine ⟨0, ev_succ ⟨0, fun k _ => ?_⟩, by omega, fun h => by omega, fun h => absurd h hn⟩
    simp [spec_l20Rd_pick.f, hn, hz, spec_l20Rd_pick.j0, w1]
  have hz' : ¬ ((l.length : Int) = 0) := by omega
  have hzb : ((l.length : Int) == 0) = false := by simpa using hz
  by_cases hlt : p < (l.length : Int)
  · have hb := bytes_rd hl p
    have w3 : wrap64 (rd l p) = rd l p := wrap_id (by omega) (by omega)
    have ht := tmod_bd (rd l p) n hb.1 (by omega)
    refine ⟨Int.tmod (rd l p) n, ev_succ ⟨0, fun k _ => ?_⟩, ht.1, fun _ => ht.2, fun h => absurd h hn⟩
    simp only [spec_l20Rd_pick.f]
    rw [if_neg hn, hzb, w1]
    simp only [spec_l20Rd_pick.j0]
    rw [if_neg (by decide), w2, if_pos hlt, if_pos h0, if_neg hne, w3]
  · have L0 : (0 : Int) < (l.length : Int) := by omega
    have m1 := tmod_bd p (l.length : Int) h0 L0
    have w4 : wrap64 (p * 7) = p * 7 := wrap_id (by omega) (by omega)
    have w5 : wrap64 (p * 7 + 3) = p * 7 + 3 := wrap_id (by omega) (by omega)
    have m2 := tmod_bd (p * 7 + 3) (l.length : Int) (by omega) L0
    obtain ⟨i1, hi1⟩ : ∃ i, i = Int.tmod p (l.length : Int) := ⟨_, rfl⟩
    obtain ⟨i2, hi2⟩ : ∃ i, i = Int.tmod (p * 7 + 3) (l.length : Int) := ⟨_, rfl⟩
    have b1 := bytes_rd hl i1
    have b2 := bytes_rd hl i2
    obtain ⟨v1, hv1⟩ : ∃ v, v = rd l i1 := ⟨_, rfl⟩
    obtain ⟨v2, hv2⟩ : ∃ v, v = rd l i2 := ⟨_, rfl⟩
    have d1 : 0 ≤ Int.tdiv p (l.length : Int) ∧ Int.tdiv p (l.length : Int) ≤ p := by
      rw [Int.tdiv_eq_ediv_of_nonneg h0]
      exact ⟨Int.ediv_nonneg h0 (by omega), Int.ediv_le_self _ h0⟩
    obtain ⟨q, hq⟩ : ∃ q, q = Int.tdiv p (l.length : Int) := ⟨_, rfl⟩
    rw [← hi1] at m1
    rw [← hi2] at m2
    rw [← hv1] at b1
    rw [← hv2] at b2
    rw [← hq] at d1
    have x1 : wrap64 v1 = v1 := wrap_id (by omega) (by omega)
    have x2 : wrap64 v2 = v2 := wrap_id (by omega) (by omega)
    have x3 : wrap64 (v1 * 131) = v1 * 131 := wrap_id (by omega) (by omega)
    have x4 : wrap64 (v2 * 1117) = v2 * 1117 := wrap_id (by omega) (by omega)
    have x5 : wrap64 (v1 * 131 + v2 * 1117) = v1 * 131 + v2 * 1117 := wrap_id (by omega) (by omega)
    have x6 : wrap64 (p * 29) = p * 29 := wrap_id (by omega) (by omega)
    have x7 : wrap64 (v1 * 131 + v2 * 1117 + p * 29) = v1 * 131 + v2 * 1117 + p * 29 := wrap_id (by omega) (by omega)
    have x8 : wrap64 q = q := wrap_id (by omega) (by omega)
    have x9 : wrap64 (q * 53) = q * 53 := wrap_id (by omega) (by omega)
    have x10 : wrap64 (v1 * 131 + v2 * 1117 + p * 29 + q * 53) = v1 * 131 + v2 * 1117 + p * 29 + q * 53 := wrap_id (by omega) (by omega)
    obtain ⟨s, hs⟩ : ∃ s, s = v1 * 131 + v2 * 1117 + p * 29 + q * 53 := ⟨_, rfl⟩
    have hs0 : 0 ≤ s := by omega
    have hs1 : s ≤ 1000000000000000 := by omega
    have x11 : wrap64 (Int.tdiv s 64) = s / 64 := by
      rw [Int.tdiv_eq_ediv_of_nonneg hs0]
      exact wrap_id (by omega) (by omega)
    have hx := bits_xor_nonneg s (s / 64) hs0 (by omega) (by omega) (by omega)
    have ht := tmod_bd (Go.bits .xor .i64 s (s / 64)) n hx.1 (by omega)
    refine ⟨Int.tmod (Go.bits .xor .i64 s (s / 64)) n, ev_succ ⟨0, fun k _ => ?_⟩, ht.1, fun _ => ht.2, fun h => absurd h hn⟩
    simp only [spec_l20Rd_pick.f]
    rw [if_neg hn, hzb, w1]
    simp only [spec_l20Rd_pick.j0]
    rw [if_neg (by decide), w2, if_neg hlt, if_neg hz', w4, w5, ← hi1, ← hi2, if_pos m1.1, if_pos m1.2, if_pos m2.1, if_pos m2.2, if_neg hne, ← hv1, ← hv2, ← hq]
    simp only [x1, x2, x3, x4, x5, x6, x7, x8, x9, x10]
    rw [← hs, x11]
theorem odd_ev (l : List Int) (hl : Bytes l) (p n : Int) (h0 : 0 ≤ p) (h1 : p ≤ 1000000000000) (hn : n ≤ 1000000) :
    ∃ b q, Ev (fun k => spec_l20Rd_odd.f k l p n) (b, q) ∧ p ≤ q ∧ q ≤ p + 1 ∧ (n ≤ 0 → b = false) := by
  by_cases hn0 : n > 0
  · obtain ⟨r, ⟨K, hr⟩, _, _, _⟩ := pick_ev l hl p n h0 h1
    refine ⟨r == wrap64 (n - 1), p + 1, ⟨K, fun k hk => ?_⟩, by omega, by omega, fun h => absurd h (by omega)⟩
    have := hr k hk
    dsimp only at this
    simp [spec_l20Rd_odd.f, hn0, this]
  · refine ⟨false, p, ⟨0, fun k _ => ?_⟩, by omega, by omega, fun _ => rfl⟩
    simp [spec_l20Rd_odd.f, hn0]
theorem pick_tot {l : List Int} (hl : Bytes l) (p n : Int) (h0 : 0 ≤ p) (h1 : p ≤ 1000000000000) :
    Tot (fun k => spec_l20Rd_pick.f k l p n) (fun x => x.2 = p + 1 ∧ 0 ≤ x.1 ∧ (1 ≤ n → x.1 < n) ∧ (n < 1 → x.1 = 0)) := by
  obtain ⟨r, h, a, b, c⟩ := pick_ev l hl p n h0 h1
  exact ⟨_, h, rfl, a, b, c⟩
theorem odd_tot {l : List Int} (hl : Bytes l) (p n : Int) (h0 : 0 ≤ p) (h1 : p ≤ 1000000000000) (hn : n ≤ 1000000) :
    Tot (fun k => spec_l20Rd_odd.f k l p n) (fun x => p ≤ x.2 ∧ x.2 ≤ p + 1 ∧ (n ≤ 0 → x.1 = false)) := by
  obtain ⟨b, q, h, c⟩ := odd_ev l hl p n h0 h1 hn
  exact ⟨_, h, c⟩
theorem open_some (l : List Int) (hu : ∀ y ∈ l, 0 ≤ y ∧ y ≤ 255) : ∃ b, spec_l20Open.f l = some (b, 0) ∧ Bytes b := by
  unfold spec_l20Open.f
  by_cases h : (l.length : Int) > 2000
  · rw [if_pos h, if_pos (by omega)]
    refine ⟨l.take 2000, rfl, ?_, fun y hy => hu y (List.mem_of_mem_take hy)⟩
    rw [List.length_take]
    omega
  · rw [if_neg h]
    exact ⟨l, rfl, by omega, hu⟩
end Go.Proofs.Ytoifpgkfpdeglaa.X
namespace Go.Proofs.Ytoifpgkfpdeglaa.X
open Go.RowKit Go.Proofs.YtoifpgkfpdeglaaW.PrintWords Go.Proofs.Ytoifpgkfpdeglaa.Pl
set_option linter.unusedSimpArgs false
set_option linter.unusedVariables false
theorem l20Op_j0_tot {l : List Int} (hl : Bytes l) (n p o a b c d : Int) (h0 : 0 ≤ p) (h1 : p ≤ 900000000000) (hn : n ≤ 1000) :
    Tot (fun k => spec_l20Op.j0 k n l p o a b c d) (fun x => p ≤ x.2.2.2.2.2 ∧ x.2.2.2.2.2 ≤ p + 3) := by
  refine Tot.succ ?_
  simp only [spec_l20Op.j0]
  refine Tot.bind (odd_tot hl p n h0 (by omega) (by omega)) ?_
  rintro ⟨b1, p1⟩ ⟨e1, e2, -⟩
  dsimp only at e1 e2 ⊢
  refine Tot.ite ?_ ?_ <;> intro hb
  · refine Tot.bind (pick_tot hl p1 4 (by omega) (by omega)) ?_
    rintro ⟨r2, p2⟩ ⟨e3, e4, e5, -⟩
    dsimp only at e3 e4 e5 ⊢
    refine Tot.ite ?_ ?_ <;> intro h
    all_goals try (refine Tot.ite ?_ ?_ <;> intro h')
    all_goals try (refine Tot.ite ?_ ?_ <;> intro h'')
    all_goals
      refine Tot.some_bind ?_
      refine Tot.bind (pick_tot hl p2 2 (by omega) (by omega)) ?_
      rintro ⟨r3, p3⟩ ⟨e6, e7, e8, -⟩
      dsimp only at e6 e7 e8 ⊢
      refine Tot.pos e7 (Tot.pos ?_ (Tot.ret ?_))
      · simp only [List.length_cons, List.length_nil]; omega
      · dsimp only; omega
  · exact Tot.ret (by dsimp only; omega)
theorem l20Op_tot {l : List Int} (hl : Bytes l) (p n : Int) (h0 : 0 ≤ p) (h1 : p ≤ 800000000000) (hn : n ≤ 1000) :
    Tot (fun k => spec_l20Op.f k l p n) (fun x => p ≤ x.2.2.2.2.2 ∧ x.2.2.2.2.2 ≤ p + 8) := by
  simp only [spec_l20Op.f]
  refine Tot.bind (pick_tot hl p 8 h0 (by omega)) ?_
  rintro ⟨r0, p0⟩ ⟨e1, e2, e3, -⟩
  dsimp only at e1 e2 e3 ⊢
  refine Tot.ite ?_ ?_ <;> intro h
  · refine Tot.bind (pick_tot hl p0 3 (by omega) (by omega)) ?_
    rintro ⟨r4, p4⟩ ⟨e4, -, -, -⟩
    dsimp only at e4 ⊢
    refine Tot.bind (pick_tot hl p4 3 (by omega) (by omega)) ?_
    rintro ⟨r5, p5⟩ ⟨e5, -, -, -⟩
    dsimp only at e5 ⊢
    refine Tot.bind (pick_tot hl p5 4 (by omega) (by omega)) ?_
    rintro ⟨r6, p6⟩ ⟨e6, -, -, -⟩
    dsimp only at e6 ⊢
    refine Tot.bind (pick_tot hl p6 4 (by omega) (by omega)) ?_
    rintro ⟨r7, p7⟩ ⟨e7, -, -, -⟩
    dsimp only at e7 ⊢
    exact (l20Op_j0_tot hl n p7 _ _ _ _ _ (by omega) (by omega) hn).mono (fun x hx => by omega)
  refine Tot.ite ?_ ?_ <;> intro h
  · refine Tot.bind (pick_tot hl p0 6 (by omega) (by omega)) ?_
    rintro ⟨r4, p4⟩ ⟨e4, -, -, -⟩
    dsimp only at e4 ⊢
    refine Tot.bind (pick_tot hl p4 6 (by omega) (by omega)) ?_
    rintro ⟨r5, p5⟩ ⟨e5, -, -, -⟩
    dsimp only at e5 ⊢
    exact (l20Op_j0_tot hl n p5 _ _ _ _ _ (by omega) (by omega) hn).mono (fun x hx => by omega)
  refine Tot.ite ?_ ?_ <;> intro h
  · refine Tot.bind (pick_tot hl p0 256 (by omega) (by omega)) ?_
    rintro ⟨r4, p4⟩ ⟨e4, -, -, -⟩
    dsimp only at e4 ⊢
    refine Tot.bind (pick_tot hl p4 256 (by omega) (by omega)) ?_
    rintro ⟨r5, p5⟩ ⟨e5, -, -, -⟩
    dsimp only at e5 ⊢
    refine Tot.bind (pick_tot hl p5 256 (by omega) (by omega)) ?_
    rintro ⟨r6, p6⟩ ⟨e6, -, -, -⟩
    dsimp only at e6 ⊢
    exact (l20Op_j0_tot hl n p6 _ _ _ _ _ (by omega) (by omega) hn).mono (fun x hx => by omega)
  · exact (l20Op_j0_tot hl n p0 _ _ _ _ _ (by omega) (by omega) hn).mono (fun x hx => by omega)
abbrev DOp := S27
theorem l20Ops_l1_tot {l : List Int} (p : Int) : ∀ s : List DOp, s.length ≤ 100 → Tot (fun k => spec_l20Ops.l1 k s l p) (fun x => x.1.length ≤ 100 ∧ x.2 = p) := by
  refine tot_ind (fun k s => spec_l20Ops.l1 k s l p) (fun s => s.length ≤ 100) (fun s => 6 - s.length) _ ?_
  intro s hs ih
  refine Tot.succ ?_
  simp only [spec_l20Ops.l1]
  refine Tot.ite ?_ ?_ <;> intro h
  · refine Tot.pos (by omega) ?_
    exact ih (s ++ [⟨4, 0, 0, 0, 0⟩]) (by simp; omega) (by simp; omega)
  · exact Tot.ret ⟨hs, rfl⟩
theorem l20Ops_j1_tot {l : List Int} (hl : Bytes l) (n : Int) (s : List DOp) (p : Int) (hs : s.length ≤ 100) (h0 : 0 ≤ p) (h1 : p ≤ 750000000000) (hn : n ≤ 1000) :
    Tot (fun k => spec_l20Ops.j1 k n s l p) (fun x => x.1.length ≤ 100 ∧ p ≤ x.2 ∧ x.2 ≤ p + 1) := by
  refine Tot.succ ?_
  simp only [spec_l20Ops.j1]
  refine Tot.bind (odd_tot hl p n h0 (by omega) (by omega)) ?_
  rintro ⟨b1, p1⟩ ⟨e1, e2, -⟩
  dsimp only at e1 e2 ⊢
  refine Tot.ite ?_ ?_ <;> intro hb
  · exact (l20Ops_l1_tot p1 s hs).mono (fun x hx => ⟨hx.1, by omega, by omega⟩)
  · exact Tot.ret ⟨hs, e1, e2⟩
theorem l20Ops_l0_tot {l : List Int} (hl : Bytes l) (n P : Int) (hP : P ≤ 700000000000) (hn : n ≤ 1000) : ∀ s : List DOp × Int × Int, (0 ≤ s.2.2 ∧ s.2.1 ≤ 5 ∧ s.1.length ≤ 50 - s.2.1.toNat ∧ s.2.2 + 8 * (max s.2.1 0) ≤ P) →
    Tot (fun k => spec_l20Ops.l0 k n s.1 s.2.1 l s.2.2) (fun x => x.1.length ≤ 100 ∧ 0 ≤ x.2 ∧ x.2 ≤ P + 20) := by
  refine tot_ind (fun k (s : List DOp × Int × Int) => spec_l20Ops.l0 k n s.1 s.2.1 l s.2.2) _ (fun s => s.2.1.toNat) _ ?_
  rintro ⟨s, c, p⟩ ⟨i1, i2, i4, i5⟩ ih
  dsimp only at i1 i2 i4 i5 ⊢
  refine Tot.succ ?_
  simp only [spec_l20Ops.l0]
  refine Tot.ite ?_ ?_ <;> intro h
  · refine Tot.bind (l20Op_tot hl p 0 (by omega) (by omega) (by omega)) ?_
    rintro ⟨o, a, b, c', d, q⟩ ⟨e1, e2⟩
    dsimp only at e1 e2 ⊢
    refine Tot.pos (by omega) ?_
    have w : wrap64 (c - 1) = c - 1 := wrap_id (by omega) (by omega)
    rw [w]
    exact ih (s ++ [⟨o, a, b, c', d⟩], c - 1, q) (by dsimp only; rw [List.length_append]; simp only [List.length_cons, List.length_nil]; omega) (by dsimp only; omega)
  · refine Tot.bind (odd_tot hl p n (by omega) (by omega) (by omega)) ?_
    rintro ⟨b1, p1⟩ ⟨e1, e2, -⟩
    dsimp only at e1 e2 ⊢
    refine Tot.ite ?_ ?_ <;> intro hb
    · refine Tot.bind (l20Op_tot hl p1 1 (by omega) (by omega) (by omega)) ?_
      rintro ⟨o, a, b, c', d, q⟩ ⟨e3, e4⟩
      dsimp only at e3 e4 ⊢
      refine Tot.pos (by omega) ?_
      exact (l20Ops_j1_tot hl n _ q (by rw [List.length_append]; simp only [List.length_cons, List.length_nil]; omega) (by omega) (by omega) hn).mono (fun x hx => ⟨hx.1, by omega, by omega⟩)
    · exact (l20Ops_j1_tot hl n s p1 (by omega) (by omega) (by omega) hn).mono (fun x hx => ⟨hx.1, by omega, by omega⟩)
theorem l20Ops_tot {l : List Int} (hl : Bytes l) (p n : Int) (h0 : 0 ≤ p) (h1 : p ≤ 600000000000) (hn : n ≤ 1000) :
    Tot (fun k => spec_l20Ops.f k l p n) (fun x => x.1.length ≤ 100 ∧ 0 ≤ x.2 ∧ x.2 ≤ p + 100) := by
  simp only [spec_l20Ops.f]
  refine Tot.bind (pick_tot hl p 6 h0 (by omega)) ?_
  rintro ⟨r0, p0⟩ ⟨e1, e2, e3, -⟩
  dsimp only at e1 e2 e3 ⊢
  exact (l20Ops_l0_tot hl n (p0 + 50) (by omega) hn ([], r0, p0) (by dsimp only [List.length_nil]; omega)).mono (fun x hx => ⟨hx.1, by omega, by omega⟩)
end Go.Proofs.Ytoifpgkfpdeglaa.X
namespace Go.Proofs.Ytoifpgkfpdeglaa.X
open Go.RowKit Go.Proofs.YtoifpgkfpdeglaaW.PrintWords Go.Proofs.Ytoifpgkfpdeglaa.Pl
set_option linter.unusedSimpArgs false
set_option linter.unusedVariables false
theorem l20Pix_tot {l : List Int} (hl : Bytes l) (p : Int) (h0 : 0 ≤ p) (h1 : p ≤ 900000000000) : Tot (fun k => spec_l20Pix.f k l p) (fun x => p ≤ x.2.2.2.2 ∧ x.2.2.2.2 ≤ p + 10) := by
  simp only [spec_l20Pix.f]
  refine Tot.bind (pick_tot hl p 256 h0 (by omega)) ?_
  rintro ⟨r0, p0⟩ ⟨e0, -, -, -⟩
  dsimp only at e0 ⊢
  refine Tot.some_bind ?_
  refine Tot.bind (pick_tot hl p0 3 (by omega) (by omega)) ?_
  rintro ⟨r1, p1⟩ ⟨e1, a1, b1, -⟩
  dsimp only at e1 a1 b1 ⊢
  refine Tot.pos a1 (Tot.pos (by simp only [List.length_cons, List.length_nil]; omega) ?_)
  refine Tot.bind (pick_tot hl p1 256 (by omega) (by omega)) ?_
  rintro ⟨r2, p2⟩ ⟨e2, -, -, -⟩
  dsimp only at e2 ⊢
  refine Tot.some_bind ?_
  refine Tot.bind (pick_tot hl p2 2 (by omega) (by omega)) ?_
  rintro ⟨r3, p3⟩ ⟨e3, a3, b3, -⟩
  dsimp only at e3 a3 b3 ⊢
  refine Tot.pos a3 (Tot.pos (by simp only [List.length_cons, List.length_nil]; omega) ?_)
  refine Tot.bind (pick_tot hl p3 256 (by omega) (by omega)) ?_
  rintro ⟨r4, p4⟩ ⟨e4, -, -, -⟩
  dsimp only at e4 ⊢
  refine Tot.some_bind ?_
  refine Tot.bind (pick_tot hl p4 2 (by omega) (by omega)) ?_
  rintro ⟨r5, p5⟩ ⟨e5, a5, b5, -⟩
  dsimp only at e5 a5 b5 ⊢
  refine Tot.pos a5 (Tot.pos (by simp only [List.length_cons, List.length_nil]; omega) ?_)
  refine Tot.bind (pick_tot hl p5 256 (by omega) (by omega)) ?_
  rintro ⟨r6, p6⟩ ⟨e6, -, -, -⟩
  dsimp only at e6 ⊢
  refine Tot.some_bind ?_
  refine Tot.bind (pick_tot hl p6 4 (by omega) (by omega)) ?_
  rintro ⟨r7, p7⟩ ⟨e7, a7, b7, -⟩
  dsimp only at e7 a7 b7 ⊢
  refine Tot.pos a7 (Tot.pos (by simp only [List.length_cons, List.length_nil]; omega) (Tot.ret ?_))
  dsimp only
  omega
theorem l20Ras_l0_tot {l : List Int} (hl : Bytes l) (n w h : Int) (hw : 1 ≤ w ∧ w ≤ 6) (hh : 1 ≤ h ∧ h ≤ 6) (hn : n ≤ 1000) (P : Int) (hP : P ≤ 700000000000) : ∀ s : Int × Int × List Pix × Pix, (0 ≤ s.1 ∧ s.1 ≤ w * h ∧ s.2.2.1.length = s.1.toNat ∧ 0 ≤ s.2.1 ∧ s.2.1 + 20 * (w * h - s.1) ≤ P) →
    Tot (fun k => spec_l20Ras.l0 k n s.1 l s.2.1 w h s.2.2.1 s.2.2.2.f0 s.2.2.2.f1 s.2.2.2.f2 s.2.2.2.f3) (fun x => x.2.2.1.length ≤ 100 ∧ 0 ≤ x.2.2.2 ∧ x.2.2.2 ≤ P + 20) := by
  have hm1 : w * h ≤ 36 := by
    have : w * h ≤ 6 * 6 := Int.mul_le_mul hw.2 hh.2 (by omega) (by omega)
    omega
  have hm0 : 1 ≤ w * h := by
    have : (1 : Int) * 1 ≤ w * h := Int.mul_le_mul hw.1 hh.1 (by omega) (by omega)
    omega
  have hwr : wrap64 (w * h) = w * h := wrap_id (by omega) (by omega)
  obtain ⟨m, hm⟩ : ∃ m, m = w * h := ⟨_, rfl⟩
  rw [← hm] at hm0 hm1
  refine tot_ind (fun k (s : Int × Int × List Pix × Pix) => spec_l20Ras.l0 k n s.1 l s.2.1 w h s.2.2.1 s.2.2.2.f0 s.2.2.2.f1 s.2.2.2.f2 s.2.2.2.f3) _ (fun s => (m - s.1).toNat) _ ?_
  rintro ⟨i, p, s, z⟩ ⟨i1, i2, i3, i4, i5⟩ ih
  dsimp only at i1 i2 i3 i4 i5 ⊢
  rw [← hm] at i2 i5
  refine Tot.succ ?_
  simp only [spec_l20Ras.l0, hwr]
  rw [← hm]
  refine Tot.ite ?_ ?_ <;> intro hc
  · have hw1 : wrap64 (i + 1) = i + 1 := wrap_id (by omega) (by omega)
    refine Tot.bind (pick_tot hl p 3 (by omega) (by omega)) ?_
    rintro ⟨r0, p0⟩ ⟨e0, -, -, -⟩
    dsimp only at e0 ⊢
    rw [hw1]
    refine Tot.ite ?_ ?_ <;> intro hd
    · refine Tot.bind (l20Pix_tot hl p0 (by omega) (by omega)) ?_
      rintro ⟨c0, c1, c2, c3, p1⟩ ⟨e1, e2⟩
      dsimp only at e1 e2 ⊢
      refine Tot.pos (by omega) ?_
      exact ih (i + 1, p1, s ++ [⟨c0, c1, c2, c3⟩], ⟨c0, c1, c2, c3⟩) (by dsimp only; rw [← hm, List.length_append]; simp only [List.length_cons, List.length_nil]; omega) (by dsimp only; omega)
    · refine Tot.pos (by omega) ?_
      exact ih (i + 1, p0, s ++ [⟨z.f0, z.f1, z.f2, z.f3⟩], z) (by dsimp only; rw [← hm, List.length_append]; simp only [List.length_cons, List.length_nil]; omega) (by dsimp only; omega)
  · have hi : i = m := by omega
    have hlen : (s.length : Int) = m := by omega
    refine Tot.bind (odd_tot hl p n (by omega) (by omega) (by omega)) ?_
    rintro ⟨b1, p1⟩ ⟨e1, e2, -⟩
    dsimp only at e1 e2 ⊢
    refine Tot.ite ?_ ?_ <;> intro hb
    · refine Tot.bind (pick_tot hl p1 4 (by omega) (by omega)) ?_
      rintro ⟨r2, p2⟩ ⟨e3, -, -, -⟩
      dsimp only at e3 ⊢
      refine Tot.ite ?_ ?_ <;> intro hd
      · refine Tot.some_bind ?_
        refine Tot.bind (pick_tot hl p2 4 (by omega) (by omega)) ?_
        rintro ⟨r3, p3⟩ ⟨e4, a4, b4, -⟩
        dsimp only at e4 a4 b4 ⊢
        exact Tot.pos a4 (Tot.pos (by simp only [List.length_cons, List.length_nil]; omega) (Tot.ret ⟨by dsimp only; omega, by dsimp only; omega, by dsimp only; omega⟩))
      refine Tot.ite ?_ ?_ <;> intro hd
      · refine Tot.some_bind ?_
        refine Tot.bind (pick_tot hl p2 2 (by omega) (by omega)) ?_
        rintro ⟨r3, p3⟩ ⟨e4, a4, b4, -⟩
        dsimp only at e4 a4 b4 ⊢
        exact Tot.pos a4 (Tot.pos (by simp only [List.length_cons, List.length_nil]; omega) (Tot.ret ⟨by dsimp only; omega, by dsimp only; omega, by dsimp only; omega⟩))
      refine Tot.ite ?_ ?_ <;> intro hd
      · exact Tot.pos (by omega) (Tot.ret ⟨by dsimp only; rw [List.length_drop]; omega, by dsimp only; omega, by dsimp only; omega⟩)
      · refine Tot.bind (pick_tot hl p2 (s.length : Int) (by omega) (by omega)) ?_
        rintro ⟨r3, p3⟩ ⟨e4, a4, b4, -⟩
        dsimp only at e4 a4 b4 ⊢
        refine Tot.some_bind ?_
        refine Tot.bind (pick_tot hl p3 2 (by omega) (by omega)) ?_
        rintro ⟨r4, p4⟩ ⟨e5, a5, b5, -⟩
        dsimp only at e5 a5 b5 ⊢
        exact Tot.pos a5 (Tot.pos (by simp only [List.length_cons, List.length_nil]; omega) (Tot.pos a4 (Tot.pos (by omega) (Tot.ret ⟨by dsimp only; rw [List.length_set]; omega, by dsimp only; omega, by dsimp only; omega⟩))))
    · exact Tot.ret ⟨by dsimp only; omega, by dsimp only; omega, by dsimp only; omega⟩
theorem l20Ras_tot {l : List Int} (hl : Bytes l) (p n : Int) (h0 : 0 ≤ p) (h1 : p ≤ 600000000000) (hn : n ≤ 1000) : Tot (fun k => spec_l20Ras.f k l p n) (fun x => x.2.2.1.length ≤ 100 ∧ 0 ≤ x.2.2.2 ∧ x.2.2.2 ≤ p + 1000) := by
  simp only [spec_l20Ras.f]
  refine Tot.bind (pick_tot hl p 6 h0 (by omega)) ?_
  rintro ⟨r0, p0⟩ ⟨e0, a0, b0, -⟩
  dsimp only at e0 a0 b0 ⊢
  refine Tot.bind (pick_tot hl p0 6 (by omega) (by omega)) ?_
  rintro ⟨r1, p1⟩ ⟨e1, a1, b1, -⟩
  dsimp only at e1 a1 b1 ⊢
  refine Tot.bind (l20Pix_tot hl p1 (by omega) (by omega)) ?_
  rintro ⟨c0, c1, c2, c3, p2⟩ ⟨e2, e3⟩
  dsimp only at e2 e3 ⊢
  have w0 : wrap64 (1 + r0) = 1 + r0 := wrap_id (by omega) (by omega)
  have w1 : wrap64 (1 + r1) = 1 + r1 := wrap_id (by omega) (by omega)
  have hm : (1 + r0) * (1 + r1) ≤ 6 * 6 := Int.mul_le_mul (by omega) (by omega) (by omega) (by omega)
  have hm0 : (1 : Int) * 1 ≤ (1 + r0) * (1 + r1) := Int.mul_le_mul (by omega) (by omega) (by omega) (by omega)
  rw [w0, w1]
  exact (l20Ras_l0_tot hl n (1 + r0) (1 + r1) (by omega) (by omega) hn (p2 + 720) (by omega) (0, p2, [], ⟨c0, c1, c2, c3⟩) (by dsimp only [List.length_nil]; revert hm hm0; generalize (1 + r0) * (1 + r1) = q; intro hm hm0; omega)).mono (fun x hx => ⟨hx.1, hx.2.1, by omega⟩)
end Go.Proofs.Ytoifpgkfpdeglaa.X
namespace Go.Proofs.Ytoifpgkfpdeglaa.X
open Go.RowKit Go.Proofs.YtoifpgkfpdeglaaW.PrintWords Go.Proofs.YtoifpgkfpdeglaaW.PrintLast Go.Proofs.YtoifpgkfpdeglaaW.PrintMore
attribute [local go_sem] max2_int min2_int max_two min_two max_three min_three max_four min_four
set_option linter.unusedVariables false
set_option linter.unusedSimpArgs false
section
open Go.Proofs.YtoifpgkfpdeglaaW.PrintWords renaming add_block → yaa, pw_below_drewN → yac, below_drew1 → yad, below_alloc → yae, cell_far → yaf, below_set → yag
open Go.Proofs.YtoifpgkfpdeglaaW.PrintWords.Aside0 renaming mk → yab
open Go.Proofs.Ytoifpgkfpdeglaa.X renaming rd_T27 → yah
end
end Go.Proofs.Ytoifpgkfpdeglaa.X
namespace Go.Proofs.Ytoifpgkfpdeglaa.X
open Go.RowKit Go.Proofs.YtoifpgkfpdeglaaW.PrintWords Go.Proofs.Ytoifpgkfpdeglaa.Pl
set_option linter.unusedSimpArgs false
set_option linter.unusedVariables false
theorem eaOk_some : laws_eaOk.f = some true := by
  unfold laws_eaOk.f impl_PixOk.f
  simp [partOk_some]
theorem eaRas_same (a b : Int) (l : List Pix) (hl : l.length ≤ 1048576) : Ev (fun k => laws_eaRas.f k a b l a b l) true := by
  have := ev_all l.length (fun k i => laws_eaRas.l0 k i a b l a b l) ?_ ?_
  · refine Ev.step (fun k => ?_) this
    unfold laws_eaRas.f
    rw [if_pos rfl, if_pos rfl, laws_eaRas.j0, if_neg (by simp)]
  · intro i hi h
    refine Ev.step (fun k => ?_) h
    rw [laws_eaRas.l0, if_pos (by omega), if_pos (by omega), if_pos (by omega), if_neg (by simp), wrap_succ (by omega)]
  · intro k
    rw [laws_eaRas.l0, if_neg (by omega)]
theorem bytes_wf {l : List Int} (h : ∀ x ∈ l, (Lit.int .u8 x).wf = true) : ∀ y ∈ l, 0 ≤ y ∧ y ≤ 255 := by
  intro y hy
  have := h y hy
  simp [Lit.wf, IntKind.min, IntKind.max, IntKind.signed, IntKind.bits] at this
  omega
end Go.Proofs.Ytoifpgkfpdeglaa.X
namespace Go.Proofs.Ytoifpgkfpdeglaa.X
open Go.RowKit Go.Proofs.YtoifpgkfpdeglaaW.PrintWords Go.Proofs.Ytoifpgkfpdeglaa.Pl
set_option linter.unusedSimpArgs false
set_option linter.unusedVariables false
theorem rd_eq {os : List Op} {i : Nat} (hi : i < os.length) : rd_T27 os (i : Int) = os[i] := by
  unfold rd_T27
  rw [List.getD_eq_getElem?_getD, Int.toNat_natCast, List.getElem?_eq_getElem hi]
  rfl
theorem allOk_iff (os : List Op) : allOkB os = true ↔ os.length ≤ 5 ∧ ∀ o ∈ os, OkO o := by
  unfold allOkB
  rw [Bool.and_eq_true, decide_eq_true_eq, List.all_eq_true]
  constructor
  · rintro ⟨h1, h2⟩
    refine ⟨h1, fun o ho => ?_⟩
    obtain ⟨i, hi, rfl⟩ := List.getElem_of_mem ho
    have := h2 i (List.mem_range.2 hi)
    rw [show opAt os i = os[i] from rd_eq hi] at this
    exact (okB_iff _).1 this
  · rintro ⟨h1, h2⟩
    refine ⟨h1, fun i hi => ?_⟩
    have hi' := List.mem_range.1 hi
    rw [show opAt os i = os[i] from rd_eq hi']
    exact (okB_iff _).2 (h2 _ (List.getElem_mem hi'))
theorem doI_of {wd hg : Nat} {l : List Pix} {o : Op} (hv : Valid wd hg l) (ho : OkO o) : doI wd hg l o = (((outM o wd hg l).1 : Int), ((outM o wd hg l).2.1 : Int), (outM o wd hg l).2.2.1, (outM o wd hg l).2.2.2) :=
  doI_out ((rasOkB_iff _ _ _).2 ⟨wd, hg, rfl, rfl, hv⟩) ((okB_iff o).2 ho)
theorem doI_hit {wd hg : Nat} {l : List Pix} {o : Op} (hv : Valid wd hg l) (ho : OkO o) (h : (doI wd hg l o).2.2.2 = true) : ∃ W H : Nat, ∃ l2, doI wd hg l o = ((W : Int), (H : Int), l2, true) ∧ Valid W H l2 := by
  have e := doI_of hv ho
  rw [e] at h
  obtain ⟨W, H, l2, b, hout⟩ : ∃ W H l2 b, outM o wd hg l = (W, H, l2, b) := ⟨_, _, _, _, rfl⟩
  rw [hout] at e h
  dsimp only at e h
  subst h
  obtain ⟨hm, rfl, rfl, rfl⟩ := outM_true hout
  exact ⟨_, _, _, e, valid_picM ho hv hm⟩
theorem doAll_cons (o : Op) (os : List Op) (a b : Int) (l : List Pix) : doAll (o :: os) a b l = if (doI a b l o).2.2.2 then doAll os (doI a b l o).1 (doI a b l o).2.1 (doI a b l o).2.2.1 else (0, 0, [], false) := rfl
theorem doAll_ok : ∀ (os : List Op) (wd hg : Nat) (l : List Pix), (∀ o ∈ os, OkO o) → Valid wd hg l → (∃ W H : Nat, ∃ l2, doAll os wd hg l = ((W : Int), (H : Int), l2, true) ∧ Valid W H l2) ∨ doAll os wd hg l = (0, 0, [], false)
  | [], wd, hg, l, _, hv => Or.inl ⟨wd, hg, l, rfl, hv⟩
  | o :: os, wd, hg, l, ho, hv => by
    rw [doAll_cons]
    cases hd : (doI wd hg l o).2.2.2 with
    | false => exact Or.inr rfl
    | true =>
      obtain ⟨W, H, l2, e, hv2⟩ := doI_hit hv (ho o (by simp)) hd
      rw [e]
      exact doAll_ok os W H l2 (fun x hx => ho x (by simp [hx])) hv2
theorem doAll_app : ∀ (xs ys : List Op) (a b : Int) (l : List Pix), doAll (xs ++ ys) a b l = if (doAll xs a b l).2.2.2 then doAll ys (doAll xs a b l).1 (doAll xs a b l).2.1 (doAll xs a b l).2.2.1 else (0, 0, [], false)
  | [], ys, a, b, l => rfl
  | x :: xs, ys, a, b, l => by
    rw [List.cons_append, doAll_cons, doAll_cons]
    cases hd : (doI a b l x).2.2.2 with
    | false => rfl
    | true =>
      simp only [if_true]
      exact doAll_app xs ys _ _ _
theorem opsI_ok {wd hg : Nat} {l : List Pix} {os : List Op} (hv : Valid wd hg l) (ho : allOkB os = true) : opsI wd hg l os = doAll os wd hg l := by
  unfold opsI
  rw [(rasOkB_iff _ _ _).2 ⟨wd, hg, rfl, rfl, hv⟩, ho]
  rfl
theorem opsI_yes {a b : Int} {l : List Pix} {os : List Op} (h : (opsI a b l os).2.2.2 = true) : ∃ wd hg W H : Nat, ∃ l2, a = wd ∧ b = hg ∧ Valid wd hg l ∧ allOkB os = true ∧ doAll os wd hg l = ((W : Int), (H : Int), l2, true) ∧ opsI a b l os = ((W : Int), (H : Int), l2, true) ∧ Valid W H l2 := by
  unfold opsI at h
  split at h
  · rename_i hc
    rw [Bool.and_eq_true] at hc
    obtain ⟨wd, hg, rfl, rfl, hv⟩ := (rasOkB_iff a b l).1 hc.1
    rcases doAll_ok os wd hg l ((allOk_iff os).1 hc.2).2 hv with ⟨W, H, l2, e, hv2⟩ | e
    · exact ⟨wd, hg, W, H, l2, rfl, rfl, hv, hc.2, e, by rw [opsI_ok hv hc.2, e], hv2⟩
    · rw [e] at h; simp at h
  · simp at h
theorem opsI_no {a b : Int} {l : List Pix} {os : List Op} (h : (opsI a b l os).2.2.2 = false) : opsI a b l os = (0, 0, [], false) := by
  unfold opsI at h ⊢
  split at h
  · rename_i hc
    rw [if_pos hc]
    rw [Bool.and_eq_true] at hc
    obtain ⟨wd, hg, rfl, rfl, hv⟩ := (rasOkB_iff a b l).1 hc.1
    rcases doAll_ok os wd hg l ((allOk_iff os).1 hc.2).2 hv with ⟨W, H, l2, e, hv2⟩ | e
    · rw [e] at h; simp at h
    · exact e
  · rename_i hc
    rw [if_neg hc]
theorem opsI_len (a b : Int) (l : List Pix) (os : List Op) : (opsI a b l os).2.2.1.length ≤ 1048576 := by
  cases h : (opsI a b l os).2.2.2 with
  | false => rw [opsI_no h]; simp
  | true =>
    obtain ⟨wd, hg, W, H, l2, _, _, _, _, _, e, hv⟩ := opsI_yes h
    rw [e]
    show l2.length ≤ _
    have := Nat.mul_le_mul hv.1.2 hv.2.1.2
    have := hv.2.2.1
    omega
theorem spec_l3Copy_some (a b : Int) (l : List Pix) (hl : l.length ≤ 1048576) : spec_l3Copy.f a b l = some (a, b, l) := by
  unfold spec_l3Copy.f
  simp only [Option.bind_some, List.length_nil, List.nil_append]
  rw [if_pos (by omega)]
theorem spec_OpsDo_l0 (os : List Op) (hos : os.length ≤ 1048576) (hok : ∀ o ∈ os, OkO o) : ∀ d i, i + d = os.length → ∀ (wd hg : Nat) (l : List Pix), Valid wd hg l → Ev (fun k => spec_OpsDo.l0 k os (i : Int) wd hg l) (doAll (os.drop i) wd hg l) := by
  intro d
  induction d with
  | zero =>
    intro i hi wd hg l hv
    refine ev_succ ⟨0, fun k _ => ?_⟩
    rw [List.drop_of_length_le (by omega)]
    show spec_OpsDo.l0 (k + 1) os (i : Int) wd hg l = _
    rw [spec_OpsDo.l0, if_neg (by omega)]
    rfl
  | succ d ih =>
    intro i hi wd hg l hv
    have hi' : i < os.length := by omega
    rw [drop_at hi']
    have ho : OkO (rd_T27 os (i : Int)) := by rw [rd_eq hi']; exact hok _ (List.getElem_mem hi')
    obtain ⟨K1, h1⟩ := spec_l6Do_ev hv ho
    dsimp only at h1
    have e := doI_of hv ho
    cases hm : hasM (rd_T27 os (i : Int)) wd hg with
    | false =>
      rw [hm] at h1
      have e2 : doI wd hg l (rd_T27 os (i : Int)) = (0, 0, [], false) := by rw [e]; unfold outM; rw [hm]; rfl
      refine ev_succ ⟨K1, fun k hk => ?_⟩
      show spec_OpsDo.l0 (k + 1) os (i : Int) wd hg l = _
      rw [spec_OpsDo.l0, if_pos (by omega), if_pos (by omega), h1 k hk]
      rw [doAll_cons, e2]
      rfl
    | true =>
      rw [hm] at h1
      have hv2 := valid_picM ho hv hm
      have e2 : doI wd hg l (rd_T27 os (i : Int)) = ((wideM (rd_T27 os (i : Int)) wd hg : Int), (highM (rd_T27 os (i : Int)) wd hg : Int), picM (rd_T27 os (i : Int)) wd hg l, true) := by rw [e]; unfold outM; rw [hm]; rfl
      obtain ⟨K2, h2⟩ := ih (i + 1) (by omega) _ _ _ hv2
      dsimp only at h2
      refine ev_succ ⟨K1 + K2, fun k hk => ?_⟩
      show spec_OpsDo.l0 (k + 1) os (i : Int) wd hg l = _
      rw [spec_OpsDo.l0, if_pos (by omega), if_pos (by omega), h1 k (by omega)]
      rw [doAll_cons, e2]
      simp only [Option.bind_some, if_true]
      rw [wrap_succ (by omega)]
      exact h2 k (by omega)
theorem spec_OpsDo_ev (a b : Int) (l : List Pix) (os : List Op) (hl : l.length ≤ 1048576) (hos : os.length ≤ 1048576) : Ev (fun k => spec_OpsDo.f k a b l os) (opsI a b l os) := by
  obtain ⟨K1, h1⟩ := spec_RasOk_ev a b l
  obtain ⟨K2, h2⟩ := spec_l6All_ev os (by omega)
  dsimp only at h1 h2
  cases hr : rasOkB a b l with
  | false =>
    rw [hr] at h1
    have e : opsI a b l os = (0, 0, [], false) := by unfold opsI; rw [hr]; rfl
    rw [e]
    refine ⟨K1 + 1, fun k hk => ?_⟩
    obtain ⟨k, rfl⟩ : ∃ m, k = m + 1 := ⟨k - 1, by omega⟩
    dsimp only
    unfold spec_OpsDo.f
    rw [h1 (k + 1) (by omega)]
    simp only [Option.bind_some, Bool.false_eq_true, if_false]
    rw [spec_OpsDo.j0, if_pos rfl]
  | true =>
    rw [hr] at h1
    cases ha : allOkB os with
    | false =>
      rw [ha] at h2
      have e : opsI a b l os = (0, 0, [], false) := by unfold opsI; rw [hr, ha]; rfl
      rw [e]
      refine ⟨K1 + K2 + 1, fun k hk => ?_⟩
      obtain ⟨k, rfl⟩ : ∃ m, k = m + 1 := ⟨k - 1, by omega⟩
      dsimp only
      unfold spec_OpsDo.f
      rw [h1 (k + 1) (by omega)]
      simp only [Option.bind_some, if_true]
      rw [h2 (k + 1) (by omega)]
      simp only [Option.bind_some, Bool.not_false]
      rw [spec_OpsDo.j0, if_pos rfl]
    | true =>
      rw [ha] at h2
      obtain ⟨wd, hg, rfl, rfl, hv⟩ := (rasOkB_iff a b l).1 hr
      obtain ⟨K3, h3⟩ := spec_OpsDo_l0 os hos ((allOk_iff os).1 ha).2 os.length 0 (by omega) wd hg l hv
      dsimp only at h3
      rw [opsI_ok hv ha]
      refine ⟨K1 + K2 + K3 + 1, fun k hk => ?_⟩
      obtain ⟨k, rfl⟩ : ∃ m, k = m + 1 := ⟨k - 1, by omega⟩
      dsimp only
      unfold spec_OpsDo.f
      rw [h1 (k + 1) (by omega)]
      simp only [Option.bind_some, if_true]
      rw [h2 (k + 1) (by omega)]
      simp only [Option.bind_some, Bool.not_true]
      rw [spec_OpsDo.j0, if_neg (by decide), spec_l3Copy_some _ _ _ hl]
      simp only [Option.bind_some]
      have := h3 k (by omega)
      rw [List.drop_zero] at this
      exact this
end Go.Proofs.Ytoifpgkfpdeglaa.X
namespace Go.Proofs.Ytoifpgkfpdeglaa.Pure
open Go.RowKit Go.Proofs.YtoifpgkfpdeglaaW.PrintWords Go.Proofs.Ytoifpgkfpdeglaa.Pl Go.Proofs.Ytoifpgkfpdeglaa.X
set_option linter.unusedSimpArgs false
set_option linter.unusedVariables false
theorem drawOpsDo_tot {l : List Int} (hu : ∀ y ∈ l, 0 ≤ y ∧ y ≤ 255) : Tot (fun k => spec_DrawOpsDo.f k l) (fun x => x.2.2.1.length ≤ 100 ∧ x.2.2.2.length ≤ 100) := by
  simp only [spec_DrawOpsDo.f]
  obtain ⟨b, e, hb⟩ := open_some l hu
  rw [e]
  refine Tot.some_bind ?_
  refine Tot.bind (l20Ras_tot hb 0 16 (by omega) (by omega) (by omega)) ?_
  rintro ⟨a, c, pl, p0⟩ ⟨h1, h2, h3⟩
  dsimp only at h1 h2 h3 ⊢
  refine Tot.bind (l20Ops_tot hb p0 9 h2 (by omega) (by omega)) ?_
  rintro ⟨os, p1⟩ ⟨h4, -, -⟩
  exact Tot.ret ⟨h1, h4⟩
theorem impl_OpsDo_some (a b : Int) (l : List Pix) (os : List S27) (h : os.length ≤ 1000000) : impl_OpsDo.f a b l os = some (opsI a b l os) := by
  unfold impl_OpsDo.f
  rw [if_pos (by omega)]
section
variable {A B A1 B1 : Int} {L L1 : List Pix} {os : List S27}
theorem each_one (hos : os.length ≤ 1000000) (hok : ∀ o ∈ os, OkO o) (W H : Nat) (l2 : List Pix) (hend : Ev (fun k => laws_FnOpsDo.l0 k os (os.length : Int) A B L A1 B1 L1 W H l2) true) :
    ∀ d i, i + d = os.length → ∀ (wd hg : Nat) (l : List Pix), Valid wd hg l → doAll (os.drop i) wd hg l = ((W : Int), (H : Int), l2, true) → Ev (fun k => laws_FnOpsDo.l0 k os (i : Int) A B L A1 B1 L1 wd hg l) true := by
  intro d
  induction d with
  | zero =>
    intro i hi wd hg l hv hd
    rw [List.drop_of_length_le (by omega)] at hd
    unfold doAll at hd
    simp only [Prod.mk.injEq] at hd
    obtain ⟨e1, e2, e3, -⟩ := hd
    have e1' : wd = W := by omega
    have e2' : hg = H := by omega
    have ei : i = os.length := by omega
    subst e1'; subst e2'; subst e3; subst ei
    exact hend
  | succ d ih =>
    intro i hi wd hg l hv hd
    have hi' : i < os.length := by omega
    rw [drop_at hi'] at hd
    have ho : OkO (rd_T27 os (i : Int)) := by rw [rd_eq hi']; exact hok _ (List.getElem_mem hi')
    rw [doAll_cons] at hd
    cases hb : (doI wd hg l (rd_T27 os (i : Int))).2.2.2 with
    | false => rw [hb] at hd; simp at hd
    | true =>
      obtain ⟨W2, H2, l3, e, hv2⟩ := doI_hit hv ho hb
      rw [e] at hd
      have hd2 : doAll (os.drop (i + 1)) W2 H2 l3 = ((W : Int), (H : Int), l2, true) := hd
      refine Ev.step (fun k => ?_) (ih (i + 1) (by omega) W2 H2 l3 hv2 hd2)
      rw [laws_FnOpsDo.l0, if_pos (by omega), if_pos (by omega)]
      unfold impl_OpDo.f
      rw [show doI wd hg l ⟨(rd_T27 os (i : Int)).f0, (rd_T27 os (i : Int)).f1, (rd_T27 os (i : Int)).f2, (rd_T27 os (i : Int)).f3, (rd_T27 os (i : Int)).f4⟩ = _ from e]
      simp only [Option.bind_some, if_true]
      rw [wrap_succ (by omega)]
end
theorem FnOpsDo : laws_FnOpsDo.Pure := by
  intro l0 _ _ hwf
  have hu := bytes_wf hwf
  by_cases hlen : (l0.length : Int) > 1048576
  · exact ⟨0, by unfold laws_FnOpsDo.f; rw [if_pos hlen]⟩
  obtain ⟨⟨a, b, l, os⟩, ⟨K0, h0⟩, hl100, ho100⟩ := drawOpsDo_tot hu
  dsimp only at h0 hl100 ho100
  obtain ⟨K1, h1⟩ := spec_OpsDo_ev a b l os (by omega) (by omega)
  obtain ⟨K2, h2⟩ := eaRas_same (opsI a b l os).1 (opsI a b l os).2.1 (opsI a b l os).2.2.1 (opsI_len a b l os)
  dsimp only at h1 h2
  have hi := impl_OpsDo_some a b l os (by omega)
  suffices hs : Ev (fun k => laws_FnOpsDo.j0 k os (opsI a b l os).2.2.2 false a b l (opsI a b l os).1 (opsI a b l os).2.1 (opsI a b l os).2.2.1) true by
    obtain ⟨K3, h3⟩ := hs
    obtain ⟨n, hn⟩ : ∃ n, n = K0 + K1 + K2 + K3 := ⟨_, rfl⟩
    refine ⟨n, ?_⟩
    have h3' := h3 n (by omega)
    dsimp only at h3'
    unfold laws_FnOpsDo.f
    rw [if_neg hlen, h0 n (by omega)]
    simp only [Option.bind_some]
    rw [hi]
    simp only [Option.bind_some]
    rw [h1 n (by omega)]
    simp only [Option.bind_some]
    rw [h2 n (by omega)]
    simp only [Option.bind_some, if_true, bne_self_eq_false]
    exact h3'
  cases hy : (opsI a b l os).2.2.2 with
  | false =>
    rw [opsI_no hy]
    refine ev_succ ⟨0, fun k _ => ?_⟩
    show laws_FnOpsDo.j0 (k + 1) os false false a b l 0 0 [] = _
    rw [laws_FnOpsDo.j0, if_neg (by decide), if_neg (by decide), if_pos (by simp), eaOk_some]
    rfl
  | true =>
    obtain ⟨wd, hg, W, H, l2, rfl, rfl, hv, hok, hd, he, hv2⟩ := opsI_yes hy
    have hoo := (allOk_iff os).1 hok
    rw [he]
    obtain ⟨m, hm⟩ : ∃ m : Nat, m = os.length / 2 := ⟨_, rfl⟩
    have em : wrap64 ((os.length : Int) / 2) = (m : Int) := by unfold wrap64; omega
    have hsp : os.take m ++ os.drop m = os := List.take_append_drop m os
    have hA := doAll_app (os.take m) (os.drop m) wd hg l
    rw [hsp, hd] at hA
    have okT : allOkB (os.take m) = true := (allOk_iff _).2 ⟨by rw [List.length_take]; omega, fun o ho => hoo.2 o (List.mem_of_mem_take ho)⟩
    have okD : allOkB (os.drop m) = true := (allOk_iff _).2 ⟨by rw [List.length_drop]; omega, fun o ho => hoo.2 o (List.mem_of_mem_drop ho)⟩
    have okN : allOkB ([] : List S27) = true := rfl
    have first : ∃ W1 H1 : Nat, ∃ l1, doAll (os.take m) wd hg l = ((W1 : Int), (H1 : Int), l1, true) ∧ Valid W1 H1 l1 := by
      rcases doAll_ok (os.take m) wd hg l ((allOk_iff _).1 okT).2 hv with h | h
      · exact h
      · rw [h] at hA; simp at hA
    obtain ⟨W1, H1, l1, e1, hv1⟩ := first
    rw [e1] at hA
    have e2 : doAll (os.drop m) W1 H1 l1 = ((W : Int), (H : Int), l2, true) := hA.symm
    have i1 := impl_OpsDo_some wd hg l (os.take m) (by rw [List.length_take]; omega)
    rw [opsI_ok hv okT, e1] at i1
    have i2 := impl_OpsDo_some W1 H1 l1 (os.drop m) (by rw [List.length_drop]; omega)
    rw [opsI_ok hv1 okD, e2] at i2
    have i3 := impl_OpsDo_some wd hg l [] (by simp)
    rw [opsI_ok hv okN] at i3
    have i3' : impl_OpsDo.f wd hg l [] = some ((wd : Int), (hg : Int), l, true) := i3
    obtain ⟨B1, b1⟩ := eaRas_same W H l2 (by have := Nat.mul_le_mul hv2.1.2 hv2.2.1.2; have := hv2.2.2.1; omega)
    obtain ⟨B2, b2⟩ := eaRas_same wd hg l (by omega)
    obtain ⟨B3, b3⟩ := impl_RasOk_ev W H l2
    rw [(rasOkB_iff _ _ _).2 ⟨W, H, rfl, rfl, hv2⟩] at b3
    dsimp only at b1 b2 b3
    have hend : Ev (fun k => laws_FnOpsDo.l0 k os (os.length : Int) wd hg l W H l2 W H l2) true := by
      refine ev_succ ⟨B1 + B2 + B3, fun n hn => ?_⟩
      show laws_FnOpsDo.l0 (n + 1) os (os.length : Int) wd hg l W H l2 W H l2 = _
      rw [laws_FnOpsDo.l0, if_neg (by omega), em, if_pos (by omega), if_pos (by omega)]
      simp only [Int.toNat_natCast]
      rw [i1]
      simp only [Option.bind_some]
      rw [i2]
      simp only [Option.bind_some]
      rw [i3']
      simp only [Option.bind_some]
      rw [b1 n (by omega)]
      simp only [Option.bind_some, if_true]
      rw [b2 n (by omega)]
      simp only [Option.bind_some, if_true]
      rw [b3 n (by omega)]
      rfl
    have key := each_one (by omega) hoo.2 W H l2 hend os.length 0 (by omega) wd hg l hv (by rw [List.drop_zero]; exact hd)
    refine Ev.step (fun k => ?_) key
    rw [laws_FnOpsDo.j0, if_neg (by decide), if_pos rfl]
    rfl
end Go.Proofs.Ytoifpgkfpdeglaa.Pure
