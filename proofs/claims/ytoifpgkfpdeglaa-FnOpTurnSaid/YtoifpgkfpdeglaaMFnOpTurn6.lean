/- Lemmas and contracts for the law FnOpTurn, part 6: of the program's functions, and over data alone. No condition. -/
import Derived.Test.YtoifpgkfpdeglaaMFnOpTurn2
import Derived.Test.YtoifpgkfpdeglaaMFnOpTurn3
import Derived.Test.YtoifpgkfpdeglaaMFnOpTurn4
import Derived.Test.YtoifpgkfpdeglaaMFnOpTurn5
namespace Go.Proofs.Ytoifpgkfpdeglaa.X
open Go.RowKit Go.Proofs.YtoifpgkfpdeglaaW.PrintWords Go.Proofs.YtoifpgkfpdeglaaW.PrintLast Go.Proofs.YtoifpgkfpdeglaaW.PrintMore
attribute [local go_sem] max2_int min2_int max_two min_two max_three min_three max_four min_four
set_option linter.unusedVariables false
set_option linter.unusedSimpArgs false

section
open Go.Proofs.YtoifpgkfpdeglaaW.PrintWords.Aside0 renaming mk → yaa
open Go.Proofs.YtoifpgkfpdeglaaW.PrintWords.Kd renaming Q_types → yab, Q_apart' → yac, R_typed → yad, R_below → yak, Q_far → yam, V_mono → yan, freshB → yas, R_base → yat, R_alloc → yau, R_drewN → yav, Q_below → yaw, V_below → yax, R_drew → yay, R_elder' → yba, R_mono → ybb, R_lt → ybc, fresh' → ybd, R_newB → ybe, V_elder' → ybf, V_alloc → ybg, V_drewN → ybh, V_drew → ybj, C_alloc → ybk, C_drewN → ybl, R_reads' → ybm, C_drew → ybn
open Go.Proofs.YtoifpgkfpdeglaaW.PrintWords renaming blk_below → yae, pw_below_drewN → yaf, below_drew1 → yag, below_alloc → yah, below_set → yai, blk_put → yal, blk_far → yao, below_step → yar, below_size → yaz
open Go.Proofs.YtoifpgkfpdeglaaW.PrintLast renaming putSel_on → yaj, steps_cons → yap, putSel_upk → yaq, putSel_off → ybi, wanted_on → ybo

abbrev q5_0 : Array Bool := #[false, false, false, false, false, false, false, false, false, false, false, false, false, false, false, false, false, false, false, false, false, false, false, false, false, false, false, false, false, false, false, false, false, false, false, false, false, false, false, false]
def laws_FnOpTurn.f (k : Nat) (l0 : List Int) : Option (Bool) := if (l0.length : Int) > 1048576 then (some true) else ((spec_DrawOpDo.f k l0).bind fun bt101 => ((spec_RasOk.f k bt101.1 bt101.2.1 bt101.2.2.1).bind fun t116 => (if t116 = true then ((laws_eaDo.f k bt101.1 bt101.2.1 bt101.2.2.1 (([(⟨4, 0, 0, 0, 0⟩ : S27)] : List (S27)))).bind fun bt122 => ((spec_OpDo.f k bt101.1 bt101.2.1 bt101.2.2.1 4 0 0 0 0).bind fun bt128 => ((laws_eaRas.f k bt122.1 bt122.2.1 bt122.2.2 bt128.1 bt128.2.1 bt128.2.2.1).bind fun t135 => (if t135 = true then ((laws_eaDo.f k bt122.1 bt122.2.1 bt122.2.2 (([(⟨4, 0, 0, 0, 0⟩ : S27), (⟨4, 0, 0, 0, 0⟩ : S27), (⟨4, 0, 0, 0, 0⟩ : S27)] : List (S27)))).bind fun bt139 => ((laws_eaRas.f k bt139.1 bt139.2.1 bt139.2.2 bt101.1 bt101.2.1 bt101.2.2.1).bind fun t144 => (if t144 = true then ((laws_eaDo.f k bt101.1 bt101.2.1 bt101.2.2.1 (([(⟨4, 0, 0, 0, 0⟩ : S27), (⟨4, 0, 0, 0, 0⟩ : S27)] : List (S27)))).bind fun bt148 => ((laws_eaDo.f k bt101.1 bt101.2.1 bt101.2.2.1 (([(⟨2, 0, 0, 0, 0⟩ : S27), (⟨3, 0, 0, 0, 0⟩ : S27)] : List (S27)))).bind fun bt156 => ((laws_eaRas.f k bt148.1 bt148.2.1 bt148.2.2 bt156.1 bt156.2.1 bt156.2.2).bind fun t161 => (if t161 = true then ((laws_eaDo.f k bt101.1 bt101.2.1 bt101.2.2.1 (([(⟨4, 0, 0, 0, 0⟩ : S27), (⟨2, 0, 0, 0, 0⟩ : S27)] : List (S27)))).bind fun bt165 => ((laws_eaDo.f k bt101.1 bt101.2.1 bt101.2.2.1 (([(⟨3, 0, 0, 0, 0⟩ : S27), (⟨4, 0, 0, 0, 0⟩ : S27)] : List (S27)))).bind fun bt173 => ((laws_eaRas.f k bt165.1 bt165.2.1 bt165.2.2 bt173.1 bt173.2.1 bt173.2.2).bind fun t178 => (some t178)))) else (some false))))) else (some false)))) else (some false))))) else ((impl_RasOk.f k bt101.1 bt101.2.1 bt101.2.2.1).bind fun t117 => (if t117 = true then (some false) else ((laws_eaOk.f).bind fun t118 => (some t118)))))))
def laws_FnOpTurn.T11 : Bool × List (List Nat × List Nat) := (true, [([], []), ([], []), ([0, 1], [0, 1]), ([2, 2], [2]), ([3], [3]), ([3], [3]), ([3], [3]), ([3], [3]), ([5, 6, 7, 3], [3, 5, 6, 7]), ([4, 8, 3, 3], [3, 4, 8]), ([3], [3]), ([9, 10, 9, 3], [3, 9, 10]), ([3, 11], [3, 11]), ([12, 11], [12]), ([13], [13]), ([13], [13]), ([13], [13]), ([15, 16, 13], [13, 15, 16]), ([14, 17, 13, 13], [13, 14, 17]), ([13], [13]), ([13], [13]), ([13], [13]), ([20, 21, 13], [13, 20, 21]), ([19, 22, 18, 13], [13, 19, 22]), ([18, 23, 23, 13], [13, 18, 23]), ([13, 24], [13, 24]), ([25, 24], [25]), ([26], [26]), ([26], [26]), ([26], [26]), ([28, 29, 26], [26, 28, 29]), ([27, 30, 26, 26], [26, 27, 30]), ([26], [26]), ([26], [26]), ([26], [26]), ([33, 34, 26], [26, 33, 34]), ([32, 35, 31, 26], [26, 32, 35]), ([31, 36, 36, 26], [26, 31, 36]), ([26, 37], [26, 37]), ([38, 37, 0, 1, 2, 3, 4, 5, 6, 7, 8, 9, 10, 11, 12, 13, 14, 15, 16, 17, 18, 19, 20, 21, 22, 23, 24, 25, 26, 27, 28, 29, 30, 31, 32, 33, 34, 35, 36, 37, 38], [38])])
def laws_FnOpTurn.B11 : List Nat := [0, 0, 3, 7, 15, 15, 15, 15, 239, 511, 15, 2047, 4095, 8191, 16383, 16383, 16383, 114687, 262143, 16383, 16383, 16383, 3162111, 8388607, 16777215, 33554431, 67108863, 134217727, 134217727, 134217727, 939524095, 2147483647, 134217727, 134217727, 134217727, 25904021503, 68719476735, 137438953471, 274877906943, 549755813887]
theorem laws_FnOpTurn.tab11 : rtab .any (opsOf Try.f5 11) = laws_FnOpTurn.T11 := by kernel_rfl
theorem laws_FnOpTurn.bits11 : waitsOk laws_FnOpTurn.T11.2 laws_FnOpTurn.B11 = true := by kernel_rfl
set_option maxHeartbeats 40000000 in
set_option maxRecDepth 100000 in
theorem laws_FnOpTurn.calls (k : Nat) (A0 : Option Addr) (c0 : Nat) (l0 : List Int) (r : Bool) (w : World) (hr0 : Kd.C (Kd.int .u8) w A0 l0.length l0) (hc0 : l0.length ≤ c0) (h : laws_FnOpTurn.f k l0 = some r) (hrt : r = true) :
  Calls Try.prog 5 #[.slice A0 l0.length c0] w fun e w' => e = .returned (.bool r) ∧ Below w.heap.size w w' := by
 have hu25 := Try.underlying25; have hu27 := Try.underlying27; have HR0 := yaa hr0; have HC0 := yaa hc0; clear hr0 hc0; have HB := yaa (Below.refl w.heap.size w); have H : (if (l0.length : Int) > 1048576 then (some true) else ((spec_DrawOpDo.f k l0).bind fun j1 => ((spec_RasOk.f k j1.1 j1.2.1 j1.2.2.1).bind fun u7 => (if u7 = true then ((laws_eaDo.f k j1.1 j1.2.1 j1.2.2.1 (([(⟨4, 0, 0, 0, 0⟩ : S27)] : List (S27)))).bind fun p2 => ((spec_OpDo.f k j1.1 j1.2.1 j1.2.2.1 4 0 0 0 0).bind fun r1 => ((laws_eaRas.f k p2.1 p2.2.1 p2.2.2 r1.1 r1.2.1 r1.2.2.1).bind fun u9 => (if u9 = true then ((laws_eaDo.f k p2.1 p2.2.1 p2.2.2 (([(⟨4, 0, 0, 0, 0⟩ : S27), (⟨4, 0, 0, 0, 0⟩ : S27), (⟨4, 0, 0, 0, 0⟩ : S27)] : List (S27)))).bind fun r2 => ((laws_eaRas.f k r2.1 r2.2.1 r2.2.2 j1.1 j1.2.1 j1.2.2.1).bind fun v0 => (if v0 = true then ((laws_eaDo.f k j1.1 j1.2.1 j1.2.2.1 (([(⟨4, 0, 0, 0, 0⟩ : S27), (⟨4, 0, 0, 0, 0⟩ : S27)] : List (S27)))).bind fun r3 => ((laws_eaDo.f k j1.1 j1.2.1 j1.2.2.1 (([(⟨2, 0, 0, 0, 0⟩ : S27), (⟨3, 0, 0, 0, 0⟩ : S27)] : List (S27)))).bind fun r4 => ((laws_eaRas.f k r3.1 r3.2.1 r3.2.2 r4.1 r4.2.1 r4.2.2).bind fun v1 => (if v1 = true then ((laws_eaDo.f k j1.1 j1.2.1 j1.2.2.1 (([(⟨4, 0, 0, 0, 0⟩ : S27), (⟨2, 0, 0, 0, 0⟩ : S27)] : List (S27)))).bind fun r5 => ((laws_eaDo.f k j1.1 j1.2.1 j1.2.2.1 (([(⟨3, 0, 0, 0, 0⟩ : S27), (⟨4, 0, 0, 0, 0⟩ : S27)] : List (S27)))).bind fun r6 => ((laws_eaRas.f k r5.1 r5.2.1 r5.2.2 r6.1 r6.2.1 r6.2.2).bind fun p1 => (some p1)))) else (some false))))) else (some false)))) else (some false))))) else ((impl_RasOk.f k j1.1 j1.2.1 j1.2.2.1).bind fun v2 => (if v2 = true then (some false) else ((laws_eaOk.f).bind fun v3 => (some v3)))))))) = some r := h; clear h
 by_cases c2 : (l0.length : Int) > 1048576
 ·
  rw [if_pos c2] at H
  have P4 : decide (1048576 < (l0.length : Int)) = true := decide_eq_true c2; have P5 : decide (1048576 < l0.length) = true := decide_eq_true (by omega); clear c2; obtain rfl := Option.some.inj H
  go_enter Try.func5, Try.ntmps5
  go_wp2
  go_ret
  exact ⟨by first | rfl | (simp [*, errW_none, errW_some] <;> rfl), upH HB.out⟩
 ·
  rw [if_neg c2] at H
  have P4 : decide (1048576 < (l0.length : Int)) = false := decide_eq_false c2; have P5 : decide (1048576 < l0.length) = false := decide_eq_false (by omega); clear c2; obtain ⟨⟨h8, i1, h7, j3, k0, k4, l4, m0⟩, A3, H⟩ := bindA H; (try dsimp only at H); obtain ⟨u7, A4, H⟩ := bindA H; (try dsimp only at H)
  by_cases c5 : u7 = true
  ·
   subst c5
   rw [if_pos rfl] at H
   obtain ⟨y119, hy119⟩ : ∃ y_ : List (S27), y_ = (([(⟨4, 0, 0, 0, 0⟩ : S27)] : List (S27))) := ⟨_, rfl⟩
   conv at H => enter [1, 1, 5]; rw [← hy119]
   have Ny119 := yaa hy119; clear hy119; obtain ⟨⟨l7, l9, l5⟩, A6, H⟩ := bindA H; (try dsimp only at H); obtain ⟨⟨k6, k7, i6, P6⟩, A7, H⟩ := bindA H; (try dsimp only at H); obtain ⟨u9, A8, H⟩ := bindA H; (try dsimp only at H)
   by_cases c9 : u9 = true
   ·
    subst c9
    rw [if_pos rfl] at H
    obtain ⟨y136, hy136⟩ : ∃ y_ : List (S27), y_ = (([(⟨4, 0, 0, 0, 0⟩ : S27), (⟨4, 0, 0, 0, 0⟩ : S27), (⟨4, 0, 0, 0, 0⟩ : S27)] : List (S27))) := ⟨_, rfl⟩
    conv at H => enter [1, 1, 5]; rw [← hy136]
    have Ny136 := yaa hy136; clear hy136; obtain ⟨⟨r7, r8, r9⟩, A10, H⟩ := bindA H; (try dsimp only at H); obtain ⟨v0, A11, H⟩ := bindA H; (try dsimp only at H)
    by_cases c12 : v0 = true
    ·
     subst c12
     rw [if_pos rfl] at H
     obtain ⟨y145, hy145⟩ : ∃ y_ : List (S27), y_ = (([(⟨4, 0, 0, 0, 0⟩ : S27), (⟨4, 0, 0, 0, 0⟩ : S27)] : List (S27))) := ⟨_, rfl⟩
     conv at H => enter [1, 1, 5]; rw [← hy145]
     have Ny145 := yaa hy145; clear hy145; obtain ⟨⟨s0, s1, p8⟩, A13, H⟩ := bindA H; (try dsimp only at H); obtain ⟨y153, hy153⟩ : ∃ y_ : List (S27), y_ = (([(⟨2, 0, 0, 0, 0⟩ : S27), (⟨3, 0, 0, 0, 0⟩ : S27)] : List (S27))) := ⟨_, rfl⟩
     conv at H => enter [1, 1, 5]; rw [← hy153]
     have Ny153 := yaa hy153; clear hy153; obtain ⟨⟨s2, s3, s4⟩, A14, H⟩ := bindA H; (try dsimp only at H); obtain ⟨v1, A15, H⟩ := bindA H; (try dsimp only at H)
     by_cases c16 : v1 = true
     ·
      subst c16
      rw [if_pos rfl] at H
      obtain ⟨y162, hy162⟩ : ∃ y_ : List (S27), y_ = (([(⟨4, 0, 0, 0, 0⟩ : S27), (⟨2, 0, 0, 0, 0⟩ : S27)] : List (S27))) := ⟨_, rfl⟩
      conv at H => enter [1, 1, 5]; rw [← hy162]
      have Ny162 := yaa hy162; clear hy162; obtain ⟨⟨s5, s6, p9⟩, A17, H⟩ := bindA H; (try dsimp only at H); obtain ⟨y170, hy170⟩ : ∃ y_ : List (S27), y_ = (([(⟨3, 0, 0, 0, 0⟩ : S27), (⟨4, 0, 0, 0, 0⟩ : S27)] : List (S27))) := ⟨_, rfl⟩
      conv at H => enter [1, 1, 5]; rw [← hy170]
      have Ny170 := yaa hy170; clear hy170; obtain ⟨⟨s7, s8, s9⟩, A18, H⟩ := bindA H; (try dsimp only at H); obtain ⟨p1, A19, H⟩ := bindA H; (try dsimp only at H); obtain rfl := Option.some.inj H
      go_enter Try.func5, Try.ntmps5
      try go_wp2_with (first | ((with_reducible refine gc_ 10 rfl ?_); refine gl_ (some 16) rfl Try.func10 #[.slice A0 l0.length c0] ?_; (with_reducible refine (spec_DrawOpDo.calls k _ _ l0 h8 i1 h7 j3 k0 k4 l4 m0 _ ?side1 ?side2 A3.out).mono ?_); (case side1 => repeat (first | exact HR0.out | (with_reducible refine ybk ?_ _) | (with_reducible refine ybl ?_ _) | (with_reducible refine ybn ?_))); (case side2 => exact HC0.out); rintro e w20 ⟨P7, rfl, ho0, hb⟩; refine ⟨_, rfl, ?_⟩; have a4 := yaa (Kd.Q_lower ho0 (yaz (upH HB.out))); replace HB := yaa (yar (upH HB.out) hb); (try clear hb ho0)) | ((with_reducible refine gd_ 3 rfl ?_); (try (refine gate_guard (by rfl) ?_; dsimp only)); refine bx_ 3 rfl #[.int .i64 0, .int .i64 0, .slice none 0 0] 25 ?_; intro g4 hg w21 hbox hb; replace a4 := yaa (yaw (upQ a4.out) hb); have a1 := yaa (hbox); have t0 := yaa ((by rw [hg]; exact (yaz (upH HB.out)) : w.heap.size ≤ g4)); replace HB := yaa (yar (upH HB.out) hb); have w4 := t0; clear hb hbox hg) | ((with_reducible refine gd_ 4 rfl ?_); (try (refine gate_guard (by rfl) ?_; dsimp only)); refine bx_ 4 rfl #[.int .i64 0, .int .i64 0, .int .i64 0, .int .i64 0, .int .i64 0] 27 ?_; intro f2 hg w22 hbox hb; replace a4 := yaa (yaw (upQ a4.out) hb); have a3 := yaa (hbox); have t1 := yaa ((by rw [hg]; exact (yaz (by repeat (with_reducible first | exact HB.out | apply yah | apply yaf | apply yag | refine yai ?_ (Aside0.out ‹_›)))) : w.heap.size ≤ f2)); replace HB := yaa (yar (by repeat (with_reducible first | exact HB.out | apply yah | apply yaf | apply yag | refine yai ?_ (Aside0.out ‹_›))) hb); have w5 := t1; have f8 := yaa ((by rw [hg]; exact Nat.ne_of_lt (blk_lt (upB a1.out)) : g4 ≠ f2)); replace a1 := yaa (yae (upB a1.out) hb); have i2 := yaa f8.out.symm; clear hb hbox hg; have S6 := f8.out; have S7 := i2.out; obtain ⟨F8, F9, G0⟩ := cc3_ a1.out; obtain ⟨G1, G2, G3⟩ := cf3_ a1.out; obtain ⟨i5, i3, P8, _⟩ := Kd.Q_slice a4.out; subst P8; obtain ⟨G4, G5, G6, G7, G8⟩ := cc5_ a3.out; obtain ⟨G9, H0, H1, H2⟩ := cf4_ a3.out; have H3 := blk_frozen a3.out 4) | ((with_reducible refine gd_ 5 rfl ?_); (try (refine gate_guard (by rfl) ?_; dsimp only)); refine bx_ 5 rfl #[.int .i64 0, .int .i64 0, .int .i64 0, .int .i64 0, .int .i64 0] 27 ?_; intro f0 hg w27 hbox hb; replace a4 := yaa (yaw (by (with_reducible repeat (first | apply Kd.Q_alloc | apply Kd.Q_drewN | apply Kd.Q_drew)); exact (Kd.Q_mono (Kd.Q_mono (yam (p := ⟨f2, 4, none⟩) (yam (p := ⟨f2, 3, none⟩) (yam (p := ⟨f2, 2, none⟩) (yam (p := ⟨f2, 1, none⟩) (yam (p := ⟨f2, 0, none⟩) (yam (p := ⟨g4, 2, none⟩) (yam (p := ⟨g4, 1, none⟩) (yam (p := ⟨g4, 0, none⟩) (yab (yab a4.out a1.out (by decide)) a3.out (by decide)) (fun _ hk => hk.1.2) (.int .i64 h8)) (fun _ hk => hk.1.2) (.int .i64 i1)) (fun _ hk => hk.1.2) (.slice i5 h7.length i3)) (fun _ hk => hk.2) (.int .i64 j3)) (fun _ hk => hk.2) (.int .i64 k0)) (fun _ hk => hk.2) (.int .i64 k4)) (fun _ hk => hk.2) (.int .i64 l4)) (fun _ hk => hk.2) (.int .i64 m0)) (fun _ h_ => h_.1)) (fun _ h_ => h_.1))) hb); have a2 := yaa (hbox); have t3 := yaa ((by rw [hg]; exact (yaz (by repeat (with_reducible first | exact HB.out | apply yah | apply yaf | apply yag | refine yai ?_ (Aside0.out ‹_›)))) : w.heap.size ≤ f0)); replace HB := yaa (yar (by repeat (with_reducible first | exact HB.out | apply yah | apply yaf | apply yag | refine yai ?_ (Aside0.out ‹_›))) hb); have w6 := t3; have j5 := yaa ((by rw [hg]; exact Nat.ne_of_lt (blk_lt (g := g4) (o := .cells #[.int .i64 h8, .int .i64 i1, .slice i5 h7.length i3] 25 (0, 0)) (by (repeat refine oneB ?_); refine yao ?_ f8.out _; (repeat refine oneB ?_); refine yao ?_ f8.out _; (repeat refine oneB ?_); refine yao ?_ f8.out _; (repeat refine oneB ?_); refine yao ?_ f8.out _; (repeat refine oneB ?_); refine yao ?_ f8.out _; (repeat refine oneB ?_); refine yal (cs := #[.int .i64 h8, .int .i64 i1, .slice none 0 0]) ?_ 2 _ rfl; refine yal (cs := #[.int .i64 h8, .int .i64 0, .slice none 0 0]) ?_ 1 _ rfl; refine yal (cs := #[.int .i64 0, .int .i64 0, .slice none 0 0]) ?_ 0 _ rfl; exact upB a1.out)) : g4 ≠ f0)); replace a1 := yaa (yae (g := g4) (o := .cells #[.int .i64 h8, .int .i64 i1, .slice i5 h7.length i3] 25 (0, 0)) (by (repeat refine oneB ?_); refine yao ?_ f8.out _; (repeat refine oneB ?_); refine yao ?_ f8.out _; (repeat refine oneB ?_); refine yao ?_ f8.out _; (repeat refine oneB ?_); refine yao ?_ f8.out _; (repeat refine oneB ?_); refine yao ?_ f8.out _; (repeat refine oneB ?_); refine yal (cs := #[.int .i64 h8, .int .i64 i1, .slice none 0 0]) ?_ 2 _ rfl; refine yal (cs := #[.int .i64 h8, .int .i64 0, .slice none 0 0]) ?_ 1 _ rfl; refine yal (cs := #[.int .i64 0, .int .i64 0, .slice none 0 0]) ?_ 0 _ rfl; exact upB a1.out) hb); have n1 := yaa j5.out.symm; have j6 := yaa ((by rw [hg]; exact Nat.ne_of_lt (blk_lt (g := f2) (o := .cells #[.int .i64 j3, .int .i64 k0, .int .i64 k4, .int .i64 l4, .int .i64 m0] 27 (0, 0)) (by (repeat refine oneB ?_); refine yal (cs := #[.int .i64 j3, .int .i64 k0, .int .i64 k4, .int .i64 l4, .int .i64 0]) ?_ 4 _ rfl; refine yal (cs := #[.int .i64 j3, .int .i64 k0, .int .i64 k4, .int .i64 0, .int .i64 0]) ?_ 3 _ rfl; refine yal (cs := #[.int .i64 j3, .int .i64 k0, .int .i64 0, .int .i64 0, .int .i64 0]) ?_ 2 _ rfl; refine yal (cs := #[.int .i64 j3, .int .i64 0, .int .i64 0, .int .i64 0, .int .i64 0]) ?_ 1 _ rfl; refine yal (cs := #[.int .i64 0, .int .i64 0, .int .i64 0, .int .i64 0, .int .i64 0]) ?_ 0 _ rfl; (repeat refine oneB ?_); refine yao ?_ i2.out _; (repeat refine oneB ?_); refine yao ?_ i2.out _; (repeat refine oneB ?_); refine yao ?_ i2.out _; exact upB a3.out)) : f2 ≠ f0)); replace a3 := yaa (yae (g := f2) (o := .cells #[.int .i64 j3, .int .i64 k0, .int .i64 k4, .int .i64 l4, .int .i64 m0] 27 (0, 0)) (by (repeat refine oneB ?_); refine yal (cs := #[.int .i64 j3, .int .i64 k0, .int .i64 k4, .int .i64 l4, .int .i64 0]) ?_ 4 _ rfl; refine yal (cs := #[.int .i64 j3, .int .i64 k0, .int .i64 k4, .int .i64 0, .int .i64 0]) ?_ 3 _ rfl; refine yal (cs := #[.int .i64 j3, .int .i64 k0, .int .i64 0, .int .i64 0, .int .i64 0]) ?_ 2 _ rfl; refine yal (cs := #[.int .i64 j3, .int .i64 0, .int .i64 0, .int .i64 0, .int .i64 0]) ?_ 1 _ rfl; refine yal (cs := #[.int .i64 0, .int .i64 0, .int .i64 0, .int .i64 0, .int .i64 0]) ?_ 0 _ rfl; (repeat refine oneB ?_); refine yao ?_ i2.out _; (repeat refine oneB ?_); refine yao ?_ i2.out _; (repeat refine oneB ?_); refine yao ?_ i2.out _; exact upB a3.out) hb); have n2 := yaa j6.out.symm; clear hb hbox hg; have S8 := n1.out; have S9 := j5.out; have T0 := n2.out; have T1 := j6.out; obtain ⟨H4, H5, H6, H7, H8⟩ := cc5_ a2.out; obtain ⟨H9, I0, I1, I2⟩ := cf4_ a2.out; have I3 := blk_frozen a2.out 4) | ((with_reducible refine gd_ 6 rfl ?_); (try (refine gate_guard (by rfl) ?_; dsimp only)); refine bx_ 6 rfl #[.int .i64 0, .int .i64 0, .int .i64 0, .int .i64 0, .int .i64 0] 27 ?_; intro f6 hg w31 hbox hb; replace a4 := yaa (yaw (by (with_reducible repeat (first | apply Kd.Q_alloc | apply Kd.Q_drewN | apply Kd.Q_drew)); exact (Kd.Q_mono (yam (p := ⟨f0, 4, none⟩) (yam (p := ⟨f0, 3, none⟩) (yam (p := ⟨f0, 2, none⟩) (yam (p := ⟨f0, 1, none⟩) (yam (p := ⟨f0, 0, none⟩) (yab a4.out a2.out (by decide)) (fun _ hk => hk.2) (.int .i64 4)) (fun _ hk => hk.2) (.int .i64 0)) (fun _ hk => hk.2) (.int .i64 0)) (fun _ hk => hk.2) (.int .i64 0)) (fun _ hk => hk.2) (.int .i64 0)) (fun _ h_ => h_.1))) hb); have a5 := yaa (hbox); have t4 := yaa ((by rw [hg]; exact (yaz (by repeat (with_reducible first | exact HB.out | apply yah | apply yaf | apply yag | refine yai ?_ (Aside0.out ‹_›)))) : w.heap.size ≤ f6)); replace HB := yaa (yar (by repeat (with_reducible first | exact HB.out | apply yah | apply yaf | apply yag | refine yai ?_ (Aside0.out ‹_›))) hb); have w7 := t4; have j7 := yaa ((by rw [hg]; exact Nat.ne_of_lt (blk_lt (g := g4) (o := .cells #[.int .i64 h8, .int .i64 i1, .slice i5 h7.length i3] 25 (0, 0)) (by repeat (with_reducible first | exact a1.out | refine oneB ?_ | refine yao ?_ j5.out _))) : g4 ≠ f6)); replace a1 := yaa (yae (g := g4) (o := .cells #[.int .i64 h8, .int .i64 i1, .slice i5 h7.length i3] 25 (0, 0)) (by repeat (with_reducible first | exact a1.out | refine oneB ?_ | refine yao ?_ j5.out _)) hb); have n3 := yaa j7.out.symm; have j8 := yaa ((by rw [hg]; exact Nat.ne_of_lt (blk_lt (g := f2) (o := .cells #[.int .i64 j3, .int .i64 k0, .int .i64 k4, .int .i64 l4, .int .i64 m0] 27 (0, 0)) (by repeat (with_reducible first | exact a3.out | refine oneB ?_ | refine yao ?_ j6.out _))) : f2 ≠ f6)); replace a3 := yaa (yae (g := f2) (o := .cells #[.int .i64 j3, .int .i64 k0, .int .i64 k4, .int .i64 l4, .int .i64 m0] 27 (0, 0)) (by repeat (with_reducible first | exact a3.out | refine oneB ?_ | refine yao ?_ j6.out _)) hb); have n4 := yaa j8.out.symm; have j9 := yaa ((by rw [hg]; exact Nat.ne_of_lt (blk_lt (g := f0) (o := .cells #[.int .i64 4, .int .i64 0, .int .i64 0, .int .i64 0, .int .i64 0] 27 (0, 0)) (by (repeat refine oneB ?_); refine yal (cs := #[.int .i64 4, .int .i64 0, .int .i64 0, .int .i64 0, .int .i64 0]) ?_ 4 _ rfl; refine yal (cs := #[.int .i64 4, .int .i64 0, .int .i64 0, .int .i64 0, .int .i64 0]) ?_ 3 _ rfl; refine yal (cs := #[.int .i64 4, .int .i64 0, .int .i64 0, .int .i64 0, .int .i64 0]) ?_ 2 _ rfl; refine yal (cs := #[.int .i64 4, .int .i64 0, .int .i64 0, .int .i64 0, .int .i64 0]) ?_ 1 _ rfl; refine yal (cs := #[.int .i64 0, .int .i64 0, .int .i64 0, .int .i64 0, .int .i64 0]) ?_ 0 _ rfl; exact upB a2.out)) : f0 ≠ f6)); replace a2 := yaa (yae (g := f0) (o := .cells #[.int .i64 4, .int .i64 0, .int .i64 0, .int .i64 0, .int .i64 0] 27 (0, 0)) (by (repeat refine oneB ?_); refine yal (cs := #[.int .i64 4, .int .i64 0, .int .i64 0, .int .i64 0, .int .i64 0]) ?_ 4 _ rfl; refine yal (cs := #[.int .i64 4, .int .i64 0, .int .i64 0, .int .i64 0, .int .i64 0]) ?_ 3 _ rfl; refine yal (cs := #[.int .i64 4, .int .i64 0, .int .i64 0, .int .i64 0, .int .i64 0]) ?_ 2 _ rfl; refine yal (cs := #[.int .i64 4, .int .i64 0, .int .i64 0, .int .i64 0, .int .i64 0]) ?_ 1 _ rfl; refine yal (cs := #[.int .i64 0, .int .i64 0, .int .i64 0, .int .i64 0, .int .i64 0]) ?_ 0 _ rfl; exact upB a2.out) hb); have n5 := yaa j9.out.symm; clear hb hbox hg; have T2 := n3.out; have T3 := j7.out; have T4 := n4.out; have T5 := j8.out; have T6 := n5.out; have T7 := j9.out; obtain ⟨I4, I5, I6, I7, I8⟩ := cc5_ a5.out; obtain ⟨I9, J0, J1, J2⟩ := cf4_ a5.out; have J3 := blk_frozen a5.out 4) | ((with_reducible refine gd_ 7 rfl ?_); (try (refine gate_guard (by rfl) ?_; dsimp only)); refine bx_ 7 rfl #[.int .i64 0, .int .i64 0, .int .i64 0, .int .i64 0, .int .i64 0] 27 ?_; intro f3 hg w36 hbox hb; replace a4 := yaa (yaw (by (with_reducible repeat (first | apply Kd.Q_alloc | apply Kd.Q_drewN | apply Kd.Q_drew)); exact (Kd.Q_mono (yam (p := ⟨f6, 4, none⟩) (yam (p := ⟨f6, 3, none⟩) (yam (p := ⟨f6, 2, none⟩) (yam (p := ⟨f6, 1, none⟩) (yam (p := ⟨f6, 0, none⟩) (yab a4.out a5.out (by decide)) (fun _ hk => hk.2) (.int .i64 2)) (fun _ hk => hk.2) (.int .i64 0)) (fun _ hk => hk.2) (.int .i64 0)) (fun _ hk => hk.2) (.int .i64 0)) (fun _ hk => hk.2) (.int .i64 0)) (fun _ h_ => h_.1))) hb); have a6 := yaa (hbox); have t5 := yaa ((by rw [hg]; exact (yaz (by repeat (with_reducible first | exact HB.out | apply yah | apply yaf | apply yag | refine yai ?_ (Aside0.out ‹_›)))) : w.heap.size ≤ f3)); replace HB := yaa (yar (by repeat (with_reducible first | exact HB.out | apply yah | apply yaf | apply yag | refine yai ?_ (Aside0.out ‹_›))) hb); have w8 := t5; have k8 := yaa ((by rw [hg]; exact Nat.ne_of_lt (blk_lt (g := g4) (o := .cells #[.int .i64 h8, .int .i64 i1, .slice i5 h7.length i3] 25 (0, 0)) (by repeat (with_reducible first | exact a1.out | refine oneB ?_ | refine yao ?_ j7.out _))) : g4 ≠ f3)); replace a1 := yaa (yae (g := g4) (o := .cells #[.int .i64 h8, .int .i64 i1, .slice i5 h7.length i3] 25 (0, 0)) (by repeat (with_reducible first | exact a1.out | refine oneB ?_ | refine yao ?_ j7.out _)) hb); have n6 := yaa k8.out.symm; have k9 := yaa ((by rw [hg]; exact Nat.ne_of_lt (blk_lt (g := f2) (o := .cells #[.int .i64 j3, .int .i64 k0, .int .i64 k4, .int .i64 l4, .int .i64 m0] 27 (0, 0)) (by repeat (with_reducible first | exact a3.out | refine oneB ?_ | refine yao ?_ j8.out _))) : f2 ≠ f3)); replace a3 := yaa (yae (g := f2) (o := .cells #[.int .i64 j3, .int .i64 k0, .int .i64 k4, .int .i64 l4, .int .i64 m0] 27 (0, 0)) (by repeat (with_reducible first | exact a3.out | refine oneB ?_ | refine yao ?_ j8.out _)) hb); have n7 := yaa k9.out.symm; have l1 := yaa ((by rw [hg]; exact Nat.ne_of_lt (blk_lt (g := f0) (o := .cells #[.int .i64 4, .int .i64 0, .int .i64 0, .int .i64 0, .int .i64 0] 27 (0, 0)) (by repeat (with_reducible first | exact a2.out | refine oneB ?_ | refine yao ?_ j9.out _))) : f0 ≠ f3)); replace a2 := yaa (yae (g := f0) (o := .cells #[.int .i64 4, .int .i64 0, .int .i64 0, .int .i64 0, .int .i64 0] 27 (0, 0)) (by repeat (with_reducible first | exact a2.out | refine oneB ?_ | refine yao ?_ j9.out _)) hb); have n8 := yaa l1.out.symm; have l2 := yaa ((by rw [hg]; exact Nat.ne_of_lt (blk_lt (g := f6) (o := .cells #[.int .i64 2, .int .i64 0, .int .i64 0, .int .i64 0, .int .i64 0] 27 (0, 0)) (by (repeat refine oneB ?_); refine yal (cs := #[.int .i64 2, .int .i64 0, .int .i64 0, .int .i64 0, .int .i64 0]) ?_ 4 _ rfl; refine yal (cs := #[.int .i64 2, .int .i64 0, .int .i64 0, .int .i64 0, .int .i64 0]) ?_ 3 _ rfl; refine yal (cs := #[.int .i64 2, .int .i64 0, .int .i64 0, .int .i64 0, .int .i64 0]) ?_ 2 _ rfl; refine yal (cs := #[.int .i64 2, .int .i64 0, .int .i64 0, .int .i64 0, .int .i64 0]) ?_ 1 _ rfl; refine yal (cs := #[.int .i64 0, .int .i64 0, .int .i64 0, .int .i64 0, .int .i64 0]) ?_ 0 _ rfl; exact upB a5.out)) : f6 ≠ f3)); replace a5 := yaa (yae (g := f6) (o := .cells #[.int .i64 2, .int .i64 0, .int .i64 0, .int .i64 0, .int .i64 0] 27 (0, 0)) (by (repeat refine oneB ?_); refine yal (cs := #[.int .i64 2, .int .i64 0, .int .i64 0, .int .i64 0, .int .i64 0]) ?_ 4 _ rfl; refine yal (cs := #[.int .i64 2, .int .i64 0, .int .i64 0, .int .i64 0, .int .i64 0]) ?_ 3 _ rfl; refine yal (cs := #[.int .i64 2, .int .i64 0, .int .i64 0, .int .i64 0, .int .i64 0]) ?_ 2 _ rfl; refine yal (cs := #[.int .i64 2, .int .i64 0, .int .i64 0, .int .i64 0, .int .i64 0]) ?_ 1 _ rfl; refine yal (cs := #[.int .i64 0, .int .i64 0, .int .i64 0, .int .i64 0, .int .i64 0]) ?_ 0 _ rfl; exact upB a5.out) hb); have n9 := yaa l2.out.symm; clear hb hbox hg; have T8 := n6.out; have T9 := k8.out; have U0 := n7.out; have U1 := k9.out; have U2 := n8.out; have U3 := l1.out; have U4 := n9.out; have U5 := l2.out; obtain ⟨J4, J5, J6, J7, J8⟩ := cc5_ a6.out; obtain ⟨J9, K0, K1, K2, K3⟩ := cf5_ a6.out; obtain ⟨K4, K5, K6⟩ := cc3_ a1.out; obtain ⟨K7, K8⟩ := cf2_ a1.out; have K9 := blk_frozen a1.out 2) | ((with_reducible refine gc_ 16 rfl ?_); refine gl_ (some 23) rfl Try.func16 #[.agg #[.int .i64 h8, .int .i64 i1, .slice i5 h7.length i3]] ?_; (with_reducible refine (spec_RasOk.calls k h8 i1 _ _ h7 true _ ?side1 ?side2 A4.out).mono ?_); (case side1 => refine (Kd.Q_reads' (e := 36) (base := w.heap.size) (ok := fun k_ => True) (n := h7.length) (c := i3) ?_).2.2; exact (by (with_reducible repeat (first | apply Kd.Q_alloc | apply Kd.Q_drewN | apply Kd.Q_drew)); exact (Kd.Q_mono (yam (p := ⟨f3, 4, none⟩) (yam (p := ⟨f3, 3, none⟩) (yam (p := ⟨f3, 2, none⟩) (yam (p := ⟨f3, 1, none⟩) (yam (p := ⟨f3, 0, none⟩) (yab a4.out a6.out (by decide)) (fun _ hk => hk.2) (.int .i64 3)) (fun _ hk => hk.2) (.int .i64 0)) (fun _ hk => hk.2) (.int .i64 0)) (fun _ hk => hk.2) (.int .i64 0)) (fun _ hk => hk.2) (.int .i64 0)) (fun _ h_ => h_.1)))); (case side2 => exact (Kd.Q_reads' a4.out).2.1); rintro e w43 ⟨rfl, hb⟩; refine ⟨_, rfl, ?_⟩; replace a4 := yaa (yaw (by (with_reducible repeat (first | apply Kd.Q_alloc | apply Kd.Q_drewN | apply Kd.Q_drew)); exact (Kd.Q_mono (yam (p := ⟨f3, 4, none⟩) (yam (p := ⟨f3, 3, none⟩) (yam (p := ⟨f3, 2, none⟩) (yam (p := ⟨f3, 1, none⟩) (yam (p := ⟨f3, 0, none⟩) (yab a4.out a6.out (by decide)) (fun _ hk => hk.2) (.int .i64 3)) (fun _ hk => hk.2) (.int .i64 0)) (fun _ hk => hk.2) (.int .i64 0)) (fun _ hk => hk.2) (.int .i64 0)) (fun _ hk => hk.2) (.int .i64 0)) (fun _ h_ => h_.1))) hb); replace a1 := yaa (yae (g := g4) (o := .cells #[.int .i64 h8, .int .i64 i1, .slice i5 h7.length i3] 25 (0, 0)) (by repeat (with_reducible first | exact a1.out | refine oneB ?_ | refine yao ?_ k8.out _)) hb); replace a3 := yaa (yae (g := f2) (o := .cells #[.int .i64 j3, .int .i64 k0, .int .i64 k4, .int .i64 l4, .int .i64 m0] 27 (0, 0)) (by repeat (with_reducible first | exact a3.out | refine oneB ?_ | refine yao ?_ k9.out _)) hb); replace a2 := yaa (yae (g := f0) (o := .cells #[.int .i64 4, .int .i64 0, .int .i64 0, .int .i64 0, .int .i64 0] 27 (0, 0)) (by repeat (with_reducible first | exact a2.out | refine oneB ?_ | refine yao ?_ l1.out _)) hb); replace a5 := yaa (yae (g := f6) (o := .cells #[.int .i64 2, .int .i64 0, .int .i64 0, .int .i64 0, .int .i64 0] 27 (0, 0)) (by repeat (with_reducible first | exact a5.out | refine oneB ?_ | refine yao ?_ l2.out _)) hb); replace a6 := yaa (yae (g := f3) (o := .cells #[.int .i64 3, .int .i64 0, .int .i64 0, .int .i64 0, .int .i64 0] 27 (0, 0)) (by (repeat refine oneB ?_); refine yal (cs := #[.int .i64 3, .int .i64 0, .int .i64 0, .int .i64 0, .int .i64 0]) ?_ 4 _ rfl; refine yal (cs := #[.int .i64 3, .int .i64 0, .int .i64 0, .int .i64 0, .int .i64 0]) ?_ 3 _ rfl; refine yal (cs := #[.int .i64 3, .int .i64 0, .int .i64 0, .int .i64 0, .int .i64 0]) ?_ 2 _ rfl; refine yal (cs := #[.int .i64 3, .int .i64 0, .int .i64 0, .int .i64 0, .int .i64 0]) ?_ 1 _ rfl; refine yal (cs := #[.int .i64 0, .int .i64 0, .int .i64 0, .int .i64 0, .int .i64 0]) ?_ 0 _ rfl; exact upB a6.out) hb); replace HB := yaa (yar (by repeat (with_reducible first | exact HB.out | apply yah | apply yaf | apply yag | refine yai ?_ (Aside0.out ‹_›))) hb); (try clear hb); obtain ⟨L0, L1, L2⟩ := cc3_ a1.out; obtain ⟨L3, L4, L5⟩ := cf3_ a1.out; obtain ⟨L6, L7, L8, L9, M0⟩ := cc5_ a2.out; obtain ⟨M1, M2, M3, M4⟩ := cf4_ a2.out; have M5 := blk_frozen a2.out 4) | ((with_reducible refine gd_ 33 rfl ?_); (try (refine gate_guard (by rfl) ?_; dsimp only)); refine Kd.R_lit k27 _ 27 ?hg (N := 33) ?hd (xs := ([(⟨4, 0, 0, 0, 0⟩ : S27)] : List (S27))) (inner := [.int .i64 4, .int .i64 0, .int .i64 0, .int .i64 0, .int .i64 0]) (ok := fun _ => True) (okp := fun _ => True) ?hr ?hp (fun _ hk => hk) trivial (Below.refl _ _) (Nat.le_refl _) (by simp) ?_; (case hd => rfl); (case hg => first | rfl | (simp [Region.wanted, yielded, *]; done)); (case hr => first | (go_simp; done) | (go_simp; rfl)); (case hp => exact (Reps.c5 (show Kd.M k27 _ _ _ (⟨4, 0, 0, 0, 0⟩ : S27) [.int .i64 4, .int .i64 0, .int .i64 0, .int .i64 0, .int .i64 0] from (k27_mkM _ _ _ (⟨4, 0, 0, 0, 0⟩ : S27) )) (Reps.none _ _))); intro X0 w46 t6 hb hg_ hnew_; clear hg_ hnew_; (first | rw [← Ny119.out] at t6 | (simp only [Int.reduceToNat] at t6; rw [← Ny119.out] at t6)); replace a4 := yaa (yaw (upQ a4.out) hb); have a7 := yaa (Kd.R_lower (ybe (ybe (ybe (ybe t6 (upB a3.out)) (upB a2.out)) (upB a5.out)) (upB a6.out)) (yaz (by repeat (with_reducible first | exact HB.out | apply yah | apply yaf | apply yag | refine yai ?_ (Aside0.out ‹_›))))); replace a1 := yaa (yae (upB a1.out) hb); replace a3 := yaa (yae (upB a3.out) hb); replace a2 := yaa (yae (upB a2.out) hb); replace a5 := yaa (yae (upB a5.out) hb); replace a6 := yaa (yae (upB a6.out) hb); replace HB := yaa (yar (by repeat (with_reducible first | exact HB.out | apply yah | apply yaf | apply yag | refine yai ?_ (Aside0.out ‹_›))) hb); clear hb t6; obtain ⟨k2, k3, Q0⟩ := Kd.R_slice a7.out; subst Q0) | ((with_reducible refine gc_ 15 rfl ?_); refine gl_ (some 34) rfl Try.func15 #[.agg #[.int .i64 h8, .int .i64 i1, .slice i5 h7.length i3], .slice k2 y119.length k3] ?_; (with_reducible refine (laws_eaDo.calls k h8 i1 (fun k_ => some k_ = (.slice i5 h7.length i3 : Value).ownBlock) _ _ h7 _ _ y119 l7 l9 l5 _ ?side1 ?side2 ?side3 A6.out).mono ?_); (case side1 => exact Kd.Q_V (Kd.Q_tight rfl (yab (yab (yab (yab (yab (yac (a4.out) (yad a7.out) (by decide)) a1.out (by decide)) a3.out (by decide)) a2.out (by decide)) a5.out (by decide)) a6.out (by decide)))); (case side2 => repeat (first | exact (ybm a7.out).2.2 | (with_reducible refine ybk ?_ _) | (with_reducible refine ybl ?_ _) | (with_reducible refine ybn ?_))); (case side3 => exact (ybm a7.out).2.1); rintro e w49 ⟨X1, rfl, ho0, hb⟩; refine ⟨_, rfl, ?_⟩; have d1 := yaa (Kd.V_lower (yan (ok' := fun k_ => some k_ ≠ (.slice k2 y119.length k3 : Value).ownBlock ∧ k_ ≠ g4 ∧ k_ ≠ f2 ∧ k_ ≠ f0 ∧ k_ ≠ f6 ∧ k_ ≠ f3) ho0 (fun k_ hk_ => ⟨Or.elim hk_ (fun hs_ => ((yab (yab (yab (yab (yab (yac (a4.out) (yad a7.out) (by decide)) a1.out (by decide)) a3.out (by decide)) a2.out (by decide)) a5.out (by decide)) a6.out (by decide)).1 k_ hs_.symm).1.1.1.1.1.2) (fun hn_ => (ybd (ybc (upR a7.out)) k_ hn_)), Or.elim hk_ (fun hs_ => ((yab (yab (yab (yab (yab (yac (a4.out) (yad a7.out) (by decide)) a1.out (by decide)) a3.out (by decide)) a2.out (by decide)) a5.out (by decide)) a6.out (by decide)).1 k_ hs_.symm).1.1.1.1.2) (fun hn_ => (yas (upB a1.out) k_ hn_)), Or.elim hk_ (fun hs_ => ((yab (yab (yab (yab (yab (yac (a4.out) (yad a7.out) (by decide)) a1.out (by decide)) a3.out (by decide)) a2.out (by decide)) a5.out (by decide)) a6.out (by decide)).1 k_ hs_.symm).1.1.1.2) (fun hn_ => (yas (upB a3.out) k_ hn_)), Or.elim hk_ (fun hs_ => ((yab (yab (yab (yab (yab (yac (a4.out) (yad a7.out) (by decide)) a1.out (by decide)) a3.out (by decide)) a2.out (by decide)) a5.out (by decide)) a6.out (by decide)).1 k_ hs_.symm).1.1.2) (fun hn_ => (yas (upB a2.out) k_ hn_)), Or.elim hk_ (fun hs_ => ((yab (yab (yab (yab (yab (yac (a4.out) (yad a7.out) (by decide)) a1.out (by decide)) a3.out (by decide)) a2.out (by decide)) a5.out (by decide)) a6.out (by decide)).1 k_ hs_.symm).1.2) (fun hn_ => (yas (upB a5.out) k_ hn_)), Or.elim hk_ (fun hs_ => ((yab (yab (yab (yab (yab (yac (a4.out) (yad a7.out) (by decide)) a1.out (by decide)) a3.out (by decide)) a2.out (by decide)) a5.out (by decide)) a6.out (by decide)).1 k_ hs_.symm).2) (fun hn_ => (yas (upB a6.out) k_ hn_))⟩)) (yaz (by repeat (with_reducible first | exact HB.out | apply yah | apply yaf | apply yag | refine yai ?_ (Aside0.out ‹_›))))); replace a4 := yaa (yaw (upQ a4.out) hb); replace a7 := yaa (yak (upR a7.out) hb); replace a1 := yaa (yae (upB a1.out) hb); replace a3 := yaa (yae (upB a3.out) hb); replace a2 := yaa (yae (upB a2.out) hb); replace a5 := yaa (yae (upB a5.out) hb); replace a6 := yaa (yae (upB a6.out) hb); replace HB := yaa (yar (by repeat (with_reducible first | exact HB.out | apply yah | apply yaf | apply yag | refine yai ?_ (Aside0.out ‹_›))) hb); (try clear hb ho0)) | ((with_reducible refine gd_ 8 rfl ?_); (try (refine gate_guard (by rfl) ?_; dsimp only)); refine bx_ 8 rfl #[.int .i64 0, .int .i64 0, .slice none 0 0] 25 ?_; intro i0 hg w50 hbox hb; replace a4 := yaa (yaw (upQ a4.out) hb); replace a7 := yaa (yak (upR a7.out) hb); replace d1 := yaa (yax (Kd.V_elderB (upV d1.out) i0 (Nat.le_of_eq hg.symm)) hb); have b9 := yaa (hbox); have x0 := yaa ((by rw [hg]; exact (yaz (by repeat (with_reducible first | exact HB.out | apply yah | apply yaf | apply yag | refine yai ?_ (Aside0.out ‹_›)))) : w.heap.size ≤ i0)); replace HB := yaa (yar (by repeat (with_reducible first | exact HB.out | apply yah | apply yaf | apply yag | refine yai ?_ (Aside0.out ‹_›))) hb); have U6 := x0; have o0 := yaa ((by rw [hg]; exact Nat.ne_of_lt (blk_lt (upB a1.out)) : g4 ≠ i0)); replace a1 := yaa (yae (upB a1.out) hb); have q0 := yaa o0.out.symm; have o1 := yaa ((by rw [hg]; exact Nat.ne_of_lt (blk_lt (upB a3.out)) : f2 ≠ i0)); replace a3 := yaa (yae (upB a3.out) hb); have q1 := yaa o1.out.symm; have o2 := yaa ((by rw [hg]; exact Nat.ne_of_lt (blk_lt (upB a2.out)) : f0 ≠ i0)); replace a2 := yaa (yae (upB a2.out) hb); have q2 := yaa o2.out.symm; have o3 := yaa ((by rw [hg]; exact Nat.ne_of_lt (blk_lt (upB a5.out)) : f6 ≠ i0)); replace a5 := yaa (yae (upB a5.out) hb); have q3 := yaa o3.out.symm; have o4 := yaa ((by rw [hg]; exact Nat.ne_of_lt (blk_lt (upB a6.out)) : f3 ≠ i0)); replace a6 := yaa (yae (upB a6.out) hb); have q4 := yaa o4.out.symm; clear hb hbox hg; have U7 := q0.out; have U8 := o0.out; have U9 := q1.out; have V0 := o1.out; have V1 := q2.out; have V2 := o2.out; have V3 := q3.out; have V4 := o3.out; have V5 := q4.out; have V6 := o4.out; obtain ⟨M6, M7, M8⟩ := cc3_ b9.out; obtain ⟨M9, N0, N1⟩ := cf3_ b9.out; obtain ⟨m2, m3, Q1⟩ := Kd.V_slice d1.out; subst Q1; obtain ⟨N2, N3, N4⟩ := cc3_ a1.out; obtain ⟨N5, N6, N7⟩ := cf3_ a1.out; obtain ⟨N8, N9, O0, O1, O2⟩ := cc5_ a2.out; obtain ⟨O3, O4, O5, O6⟩ := cf4_ a2.out; have O7 := blk_frozen a2.out 4) | ((with_reducible refine gc_ 12 rfl ?_); refine gl_ (some 38) rfl Try.func12 #[.agg #[.int .i64 h8, .int .i64 i1, .slice i5 h7.length i3], .agg #[.int .i64 4, .int .i64 0, .int .i64 0, .int .i64 0, .int .i64 0]] ?_; (with_reducible refine (spec_OpDo.calls k h8 i1 _ _ h7 4 0 0 0 0 k6 k7 i6 P6 _ ?side1 ?side2 A7.out).mono ?_); (case side1 => refine (Kd.Q_reads' (e := 36) (base := w.heap.size) (ok := fun k_ => True) (n := h7.length) (c := i3) ?_).2.2; exact (by (with_reducible repeat (first | apply Kd.Q_alloc | apply Kd.Q_drewN | apply Kd.Q_drew)); exact (Kd.Q_mono (yam (p := ⟨i0, 2, none⟩) (yam (p := ⟨i0, 1, none⟩) (yam (p := ⟨i0, 0, none⟩) (yab a4.out b9.out (by decide)) (fun _ hk => hk.2) (.int .i64 l7)) (fun _ hk => hk.2) (.int .i64 l9)) (fun _ hk => hk.2) (.slice m2 l5.length m3)) (fun _ h_ => h_.1)))); (case side2 => exact (Kd.Q_reads' a4.out).2.1); rintro e w60 ⟨X2, rfl, ho0, hb⟩; refine ⟨_, rfl, ?_⟩; replace a7 := yaa (yak (by (with_reducible repeat (first | apply yau | apply yav | apply yay)); exact (ybb (Kd.R_far (p := ⟨i0, 2, none⟩) (Kd.R_far (p := ⟨i0, 1, none⟩) (Kd.R_far (p := ⟨i0, 0, none⟩) (Kd.R_types a7.out b9.out (by decide)) (fun _ hk => hk.2) (.int .i64 l7)) (fun _ hk => hk.2) (.int .i64 l9)) (fun _ hk => hk.2) (.slice m2 l5.length m3)) (fun _ h_ => h_.1))) hb); replace d1 := yaa (ybf (by (with_reducible repeat (first | apply ybg | apply ybh | apply ybj)); exact (yan (Kd.V_far (p := ⟨i0, 2, none⟩) (Kd.V_far (p := ⟨i0, 1, none⟩) (Kd.V_far (p := ⟨i0, 0, none⟩) (yan d1.out (fun k_ hk => (⟨hk, hk.2⟩ : _ ∧ k_ ≠ i0))) (fun _ hk => hk.2) (.int .i64 l7)) (fun _ hk => hk.2) (.int .i64 l9)) (fun _ hk => hk.2) (.slice m2 l5.length m3)) (fun _ h_ => h_.1))) (yat ho0) hb); have d2 := yaa (Kd.R_lower (Kd.R_new' ho0 (Kd.Q_lt (by (with_reducible repeat (first | apply Kd.Q_alloc | apply Kd.Q_drewN | apply Kd.Q_drew)); exact (Kd.Q_mono (yam (p := ⟨i0, 2, none⟩) (yam (p := ⟨i0, 1, none⟩) (yam (p := ⟨i0, 0, none⟩) (yab a4.out b9.out (by decide)) (fun _ hk => hk.2) (.int .i64 l7)) (fun _ hk => hk.2) (.int .i64 l9)) (fun _ hk => hk.2) (.slice m2 l5.length m3)) (fun _ h_ => h_.1))))) (yaz (by repeat (with_reducible first | exact HB.out | apply yah | apply yaf | apply yag | refine yai ?_ (Aside0.out ‹_›))))); replace a4 := yaa (Kd.Q_elder' (by (with_reducible repeat (first | apply Kd.Q_alloc | apply Kd.Q_drewN | apply Kd.Q_drew)); exact (Kd.Q_mono (yam (p := ⟨i0, 2, none⟩) (yam (p := ⟨i0, 1, none⟩) (yam (p := ⟨i0, 0, none⟩) (yab a4.out b9.out (by decide)) (fun _ hk => hk.2) (.int .i64 l7)) (fun _ hk => hk.2) (.int .i64 l9)) (fun _ hk => hk.2) (.slice m2 l5.length m3)) (fun _ h_ => h_.1))) (yat ho0) hb); replace a1 := yaa (yae (g := g4) (o := .cells #[.int .i64 h8, .int .i64 i1, .slice i5 h7.length i3] 25 (0, 0)) (by repeat (with_reducible first | exact a1.out | refine oneB ?_ | refine yao ?_ o0.out _)) hb); replace a3 := yaa (yae (g := f2) (o := .cells #[.int .i64 j3, .int .i64 k0, .int .i64 k4, .int .i64 l4, .int .i64 m0] 27 (0, 0)) (by repeat (with_reducible first | exact a3.out | refine oneB ?_ | refine yao ?_ o1.out _)) hb); replace a2 := yaa (yae (g := f0) (o := .cells #[.int .i64 4, .int .i64 0, .int .i64 0, .int .i64 0, .int .i64 0] 27 (0, 0)) (by repeat (with_reducible first | exact a2.out | refine oneB ?_ | refine yao ?_ o2.out _)) hb); replace a5 := yaa (yae (g := f6) (o := .cells #[.int .i64 2, .int .i64 0, .int .i64 0, .int .i64 0, .int .i64 0] 27 (0, 0)) (by repeat (with_reducible first | exact a5.out | refine oneB ?_ | refine yao ?_ o3.out _)) hb); replace a6 := yaa (yae (g := f3) (o := .cells #[.int .i64 3, .int .i64 0, .int .i64 0, .int .i64 0, .int .i64 0] 27 (0, 0)) (by repeat (with_reducible first | exact a6.out | refine oneB ?_ | refine yao ?_ o4.out _)) hb); replace b9 := yaa (yae (g := i0) (o := .cells #[.int .i64 l7, .int .i64 l9, .slice m2 l5.length m3] 25 (0, 0)) (by (repeat refine oneB ?_); refine yal (cs := #[.int .i64 l7, .int .i64 l9, .slice none 0 0]) ?_ 2 _ rfl; refine yal (cs := #[.int .i64 l7, .int .i64 0, .slice none 0 0]) ?_ 1 _ rfl; refine yal (cs := #[.int .i64 0, .int .i64 0, .slice none 0 0]) ?_ 0 _ rfl; exact upB b9.out) hb); replace HB := yaa (yar (by repeat (with_reducible first | exact HB.out | apply yah | apply yaf | apply yag | refine yai ?_ (Aside0.out ‹_›))) hb); (try clear hb ho0)) | ((with_reducible refine gd_ 9 rfl ?_); (try (refine gate_guard (by rfl) ?_; dsimp only)); refine bx_ 9 rfl #[.int .i64 0, .int .i64 0, .slice none 0 0] 25 ?_; intro e1 hg w61 hbox hb; replace a4 := yaa (yaw (upQ a4.out) hb); replace a7 := yaa (yak (upR a7.out) hb); replace d1 := yaa (yax (Kd.V_elderB (upV d1.out) e1 (Nat.le_of_eq hg.symm)) hb); replace d2 := yaa (yak (upR d2.out) hb); have c1 := yaa (hbox); have x1 := yaa ((by rw [hg]; exact (yaz (by repeat (with_reducible first | exact HB.out | apply yah | apply yaf | apply yag | refine yai ?_ (Aside0.out ‹_›)))) : w.heap.size ≤ e1)); replace HB := yaa (yar (by repeat (with_reducible first | exact HB.out | apply yah | apply yaf | apply yag | refine yai ?_ (Aside0.out ‹_›))) hb); have V7 := x1; have o5 := yaa ((by rw [hg]; exact Nat.ne_of_lt (blk_lt (upB a1.out)) : g4 ≠ e1)); replace a1 := yaa (yae (upB a1.out) hb); have q5 := yaa o5.out.symm; have o6 := yaa ((by rw [hg]; exact Nat.ne_of_lt (blk_lt (upB a3.out)) : f2 ≠ e1)); replace a3 := yaa (yae (upB a3.out) hb); have q6 := yaa o6.out.symm; have o7 := yaa ((by rw [hg]; exact Nat.ne_of_lt (blk_lt (upB a2.out)) : f0 ≠ e1)); replace a2 := yaa (yae (upB a2.out) hb); have q7 := yaa o7.out.symm; have o8 := yaa ((by rw [hg]; exact Nat.ne_of_lt (blk_lt (upB a5.out)) : f6 ≠ e1)); replace a5 := yaa (yae (upB a5.out) hb); have q8 := yaa o8.out.symm; have o9 := yaa ((by rw [hg]; exact Nat.ne_of_lt (blk_lt (upB a6.out)) : f3 ≠ e1)); replace a6 := yaa (yae (upB a6.out) hb); have q9 := yaa o9.out.symm; have p0 := yaa ((by rw [hg]; exact Nat.ne_of_lt (blk_lt (upB b9.out)) : i0 ≠ e1)); replace b9 := yaa (yae (upB b9.out) hb); have r0 := yaa p0.out.symm; clear hb hbox hg; have V8 := q5.out; have V9 := o5.out; have W0 := q6.out; have W1 := o6.out; have W2 := q7.out; have W3 := o7.out; have W4 := q8.out; have W5 := o8.out; have W6 := q9.out; have W7 := o9.out; have W8 := r0.out; have W9 := p0.out; obtain ⟨O8, O9, P0⟩ := cc3_ c1.out; obtain ⟨P1, P2, P3⟩ := cf3_ c1.out; obtain ⟨i9, j0, Q3⟩ := Kd.R_slice d2.out; subst Q3))
      have n0_ : Aside0 (Kd.Q k36 36 (((w61.setCell ⟨e1, 0, none⟩ (.int .i64 k6)).setCell ⟨e1, 1, none⟩ (.int .i64 k7)).setCell ⟨e1, 2, none⟩ (.slice i9 i6.length j0)) w.heap.size (fun k_ => some k_ ≠ (.slice i9 i6.length j0 : Value).ownBlock) (.slice i5 h7.length i3) h7) := ⟨by (with_reducible repeat (first | apply Kd.Q_alloc | apply Kd.Q_drewN | apply Kd.Q_drew)); exact Kd.Q_mono (yam (p := ⟨e1, 2, none⟩) (yam (p := ⟨e1, 1, none⟩) (yam (p := ⟨e1, 0, none⟩) (yab a4.out c1.out (by decide)) (fun _ hk => hk.2) (.int .i64 k6)) (fun _ hk => hk.2) (.int .i64 k7)) (fun _ hk => hk.2) (.slice i9 i6.length j0)) (fun _ hk => hk.1.2)⟩
      have n1_ : Aside0 (Kd.R k27 27 (((w61.setCell ⟨e1, 0, none⟩ (.int .i64 k6)).setCell ⟨e1, 1, none⟩ (.int .i64 k7)).setCell ⟨e1, 2, none⟩ (.slice i9 i6.length j0)) w.heap.size (fun k_ => k_ ≠ f2 ∧ k_ ≠ f0 ∧ k_ ≠ f6 ∧ k_ ≠ f3) (.slice k2 y119.length k3) y119) := ⟨by (with_reducible repeat (first | apply yau | apply yav | apply yay)); exact ybb (Kd.R_far (p := ⟨e1, 2, none⟩) (Kd.R_far (p := ⟨e1, 1, none⟩) (Kd.R_far (p := ⟨e1, 0, none⟩) (Kd.R_types a7.out c1.out (by decide)) (fun _ hk => hk.2) (.int .i64 k6)) (fun _ hk => hk.2) (.int .i64 k7)) (fun _ hk => hk.2) (.slice i9 i6.length j0)) (fun _ hk => by grind)⟩
      have n2_ : Aside0 (Kd.V k36 36 (((w61.setCell ⟨e1, 0, none⟩ (.int .i64 k6)).setCell ⟨e1, 1, none⟩ (.int .i64 k7)).setCell ⟨e1, 2, none⟩ (.slice i9 i6.length j0)) w.heap.size (fun k_ => some k_ ≠ (.slice k2 y119.length k3 : Value).ownBlock ∧ some k_ ≠ (.slice i9 i6.length j0 : Value).ownBlock ∧ k_ ≠ g4 ∧ k_ ≠ f2 ∧ k_ ≠ f0 ∧ k_ ≠ f6 ∧ k_ ≠ f3 ∧ k_ ≠ i0 ∧ k_ ≠ e1) (.slice m2 l5.length m3) l5) := ⟨by (with_reducible repeat (first | apply ybg | apply ybh | apply ybj)); exact yan (Kd.V_far (p := ⟨e1, 2, none⟩) (Kd.V_far (p := ⟨e1, 1, none⟩) (Kd.V_far (p := ⟨e1, 0, none⟩) (yan d1.out (fun k_ hk => (⟨hk, hk.2⟩ : _ ∧ k_ ≠ e1))) (fun _ hk => hk.2) (.int .i64 k6)) (fun _ hk => hk.2) (.int .i64 k7)) (fun _ hk => hk.2) (.slice i9 i6.length j0)) (fun _ hk => by grind)⟩
      have n3_ : Aside0 (Kd.R k36 36 (((w61.setCell ⟨e1, 0, none⟩ (.int .i64 k6)).setCell ⟨e1, 1, none⟩ (.int .i64 k7)).setCell ⟨e1, 2, none⟩ (.slice i9 i6.length j0)) w.heap.size (fun k_ => some k_ ≠ (.slice i5 h7.length i3 : Value).ownBlock) (.slice i9 i6.length j0) i6) := ⟨by (with_reducible repeat (first | apply yau | apply yav | apply yay)); exact ybb (Kd.R_far (p := ⟨e1, 2, none⟩) (Kd.R_far (p := ⟨e1, 1, none⟩) (Kd.R_far (p := ⟨e1, 0, none⟩) (Kd.R_types d2.out c1.out (by decide)) (fun _ hk => hk.2) (.int .i64 k6)) (fun _ hk => hk.2) (.int .i64 k7)) (fun _ hk => hk.2) (.slice i9 i6.length j0)) (fun _ hk => hk.1.2)⟩
      have n4_ : Aside0 ((((w61.setCell ⟨e1, 0, none⟩ (.int .i64 k6)).setCell ⟨e1, 1, none⟩ (.int .i64 k7)).setCell ⟨e1, 2, none⟩ (.slice i9 i6.length j0)).heap[g4]? = some (.cells #[.int .i64 h8, .int .i64 i1, .slice i5 h7.length i3] 25 (0, 0))) := ⟨by repeat (with_reducible first | exact a1.out | refine oneB ?_ | refine yao ?_ o5.out _)⟩
      have n5_ : Aside0 ((((w61.setCell ⟨e1, 0, none⟩ (.int .i64 k6)).setCell ⟨e1, 1, none⟩ (.int .i64 k7)).setCell ⟨e1, 2, none⟩ (.slice i9 i6.length j0)).heap[f2]? = some (.cells #[.int .i64 j3, .int .i64 k0, .int .i64 k4, .int .i64 l4, .int .i64 m0] 27 (0, 0))) := ⟨by repeat (with_reducible first | exact a3.out | refine oneB ?_ | refine yao ?_ o6.out _)⟩
      have n6_ : Aside0 ((((w61.setCell ⟨e1, 0, none⟩ (.int .i64 k6)).setCell ⟨e1, 1, none⟩ (.int .i64 k7)).setCell ⟨e1, 2, none⟩ (.slice i9 i6.length j0)).heap[f0]? = some (.cells #[.int .i64 4, .int .i64 0, .int .i64 0, .int .i64 0, .int .i64 0] 27 (0, 0))) := ⟨by repeat (with_reducible first | exact a2.out | refine oneB ?_ | refine yao ?_ o7.out _)⟩
      have n7_ : Aside0 ((((w61.setCell ⟨e1, 0, none⟩ (.int .i64 k6)).setCell ⟨e1, 1, none⟩ (.int .i64 k7)).setCell ⟨e1, 2, none⟩ (.slice i9 i6.length j0)).heap[f6]? = some (.cells #[.int .i64 2, .int .i64 0, .int .i64 0, .int .i64 0, .int .i64 0] 27 (0, 0))) := ⟨by repeat (with_reducible first | exact a5.out | refine oneB ?_ | refine yao ?_ o8.out _)⟩
      have n8_ : Aside0 ((((w61.setCell ⟨e1, 0, none⟩ (.int .i64 k6)).setCell ⟨e1, 1, none⟩ (.int .i64 k7)).setCell ⟨e1, 2, none⟩ (.slice i9 i6.length j0)).heap[f3]? = some (.cells #[.int .i64 3, .int .i64 0, .int .i64 0, .int .i64 0, .int .i64 0] 27 (0, 0))) := ⟨by repeat (with_reducible first | exact a6.out | refine oneB ?_ | refine yao ?_ o9.out _)⟩
      have n9_ : Aside0 ((((w61.setCell ⟨e1, 0, none⟩ (.int .i64 k6)).setCell ⟨e1, 1, none⟩ (.int .i64 k7)).setCell ⟨e1, 2, none⟩ (.slice i9 i6.length j0)).heap[i0]? = some (.cells #[.int .i64 l7, .int .i64 l9, .slice m2 l5.length m3] 25 (0, 0))) := ⟨by repeat (with_reducible first | exact b9.out | refine oneB ?_ | refine yao ?_ p0.out _)⟩
      have i7 : Aside0 ((((w61.setCell ⟨e1, 0, none⟩ (.int .i64 k6)).setCell ⟨e1, 1, none⟩ (.int .i64 k7)).setCell ⟨e1, 2, none⟩ (.slice i9 i6.length j0)).heap[e1]? = some (.cells #[.int .i64 k6, .int .i64 k7, .slice i9 i6.length j0] 25 (0, 0))) := ⟨by (repeat refine oneB ?_); refine yal (cs := #[.int .i64 k6, .int .i64 k7, .slice none 0 0]) ?_ 2 _ rfl; refine yal (cs := #[.int .i64 k6, .int .i64 0, .slice none 0 0]) ?_ 1 _ rfl; refine yal (cs := #[.int .i64 0, .int .i64 0, .slice none 0 0]) ?_ 0 _ rfl; exact upB c1.out⟩
      have i8 : Aside0 (Below w.heap.size w (((w61.setCell ⟨e1, 0, none⟩ (.int .i64 k6)).setCell ⟨e1, 1, none⟩ (.int .i64 k7)).setCell ⟨e1, 2, none⟩ (.slice i9 i6.length j0))) := ⟨by repeat (with_reducible first | exact HB.out | apply yah | apply yaf | apply yag | refine yai ?_ (Aside0.out ‹_›))⟩
      (try clear a4); (try clear a7); (try clear d1); (try clear d2); (try clear a1); (try clear a3); (try clear a2); (try clear a5); (try clear a6); (try clear b9); (try clear c1); (try clear HB)
      generalize (((w61.setCell ⟨e1, 0, none⟩ (.int .i64 k6)).setCell ⟨e1, 1, none⟩ (.int .i64 k7)).setCell ⟨e1, 2, none⟩ (.slice i9 i6.length j0)) = w70 at n0_ n1_ n2_ n3_ n4_ n5_ n6_ n7_ n8_ n9_ i7 i8 ⊢
      have a4 := n0_; have a7 := n1_; have d1 := n2_; have d2 := n3_; have a1 := n4_; have a3 := n5_; have a2 := n6_; have a5 := n7_; have a6 := n8_; have b9 := n9_; have c1 := i7; have HB := i8; clear n0_ n1_ n2_ n3_ n4_ n5_ n6_ n7_ n8_ n9_ i7 i8; replace a4 := yaa (Kd.Q_drew a4.out); replace a7 := yaa (yay a7.out); replace d1 := yaa (ybj d1.out); replace d2 := yaa (yay d2.out); replace a1 := yaa (blk_drew a1.out); replace a3 := yaa (blk_drew a3.out); replace a2 := yaa (blk_drew a2.out); replace a5 := yaa (blk_drew a5.out); replace a6 := yaa (blk_drew a6.out); replace b9 := yaa (blk_drew b9.out); replace c1 := yaa (blk_drew c1.out); replace HB := yaa (yag HB.out)
      refine start_ (n := 40) (S := fun w' => True) (ds := []) q5_0 (by kernel_rfl) rfl rfl trivial (fun hHeld => ?_); refine with_tabW laws_FnOpTurn.tab11 laws_FnOpTurn.bits11 (fun HT_ HW_ => ?_)
      generalize w70.drew = w71 at a4 a7 d1 d2 a1 a3 a2 a5 a6 b9 c1 HB hHeld ⊢
      refine inv_at [0, 1, 2, 3, 4, 5, 6, 7, 8, 9, 10, 11, 12, 13, 14, 15, 16, 17, 18, 19, 20, 21, 22, 23, 24, 25, 26, 27, 28, 29, 30, 31, 32, 33, 34, 35, 36, 37, 38, 39] (fun a0_ b a w' => ∃ (f9 : Value) (g7 : Value) (g0 : Value) (g5 : Value) (g1 : Value) (g8 : Value) (g2 : Value) (g6 : Value) (g3 : Value) (g9 : Value) (m9_ : Value) (h0 : Value) (h2 : Value) (h3 : Value) (h4 : Value), a = putSel a0_ b [(0, 41, .agg #[.int .i64 l7, .int .i64 l9, .slice m2 l5.length m3]), (1, 42, .agg #[.int .i64 k6, .int .i64 k7, .slice i9 i6.length j0]), (2, 43, .bool true), (3, 44, .bool true), (4, 45, .agg #[.int .i64 l7, .int .i64 l9, .slice m2 l5.length m3]), (5, 46, .agg #[.int .i64 4, .int .i64 0, .int .i64 0, .int .i64 0, .int .i64 0]), (6, 47, .agg #[.int .i64 4, .int .i64 0, .int .i64 0, .int .i64 0, .int .i64 0]), (7, 48, .agg #[.int .i64 4, .int .i64 0, .int .i64 0, .int .i64 0, .int .i64 0]), (8, 49, f9), (9, 50, m9_), (10, 51, .agg #[.int .i64 h8, .int .i64 i1, .slice i5 h7.length i3]), (11, 52, .bool true), (12, 53, .bool true), (13, 54, .bool true), (14, 55, .agg #[.int .i64 h8, .int .i64 i1, .slice i5 h7.length i3]), (15, 56, .agg #[.int .i64 4, .int .i64 0, .int .i64 0, .int .i64 0, .int .i64 0]), (16, 57, .agg #[.int .i64 4, .int .i64 0, .int .i64 0, .int .i64 0, .int .i64 0]), (17, 58, g0), (18, 59, h0), (19, 60, .agg #[.int .i64 h8, .int .i64 i1, .slice i5 h7.length i3]), (20, 61, .agg #[.int .i64 2, .int .i64 0, .int .i64 0, .int .i64 0, .int .i64 0]), (21, 62, .agg #[.int .i64 3, .int .i64 0, .int .i64 0, .int .i64 0, .int .i64 0]), (22, 63, g1), (23, 64, h2), (24, 65, .bool true), (25, 66, .bool true), (26, 67, .bool true), (27, 68, .agg #[.int .i64 h8, .int .i64 i1, .slice i5 h7.length i3]), (28, 69, .agg #[.int .i64 4, .int .i64 0, .int .i64 0, .int .i64 0, .int .i64 0]), (29, 70, .agg #[.int .i64 2, .int .i64 0, .int .i64 0, .int .i64 0, .int .i64 0]), (30, 71, g2), (31, 72, h3), (32, 73, .agg #[.int .i64 h8, .int .i64 i1, .slice i5 h7.length i3]), (33, 74, .agg #[.int .i64 3, .int .i64 0, .int .i64 0, .int .i64 0, .int .i64 0]), (34, 75, .agg #[.int .i64 4, .int .i64 0, .int .i64 0, .int .i64 0, .int .i64 0]), (35, 76, g3), (36, 77, h4), (37, 78, .bool p1), (38, 79, .bool p1), (39, 2, .bool p1)] ∧ (Kd.Q k36 36 w' w.heap.size (fun k_ => some k_ ≠ (.slice i9 i6.length j0 : Value).ownBlock) (.slice i5 h7.length i3) h7) ∧ (Kd.R k27 27 w' w.heap.size (fun k_ => k_ ≠ f2 ∧ k_ ≠ f0 ∧ k_ ≠ f6 ∧ k_ ≠ f3) (.slice k2 y119.length k3) y119) ∧ (Kd.V k36 36 w' w.heap.size (fun k_ => some k_ ≠ (.slice k2 y119.length k3 : Value).ownBlock ∧ some k_ ≠ (.slice i9 i6.length j0 : Value).ownBlock ∧ k_ ≠ g4 ∧ k_ ≠ f2 ∧ k_ ≠ f0 ∧ k_ ≠ f6 ∧ k_ ≠ f3 ∧ k_ ≠ i0 ∧ k_ ≠ e1) (.slice m2 l5.length m3) l5) ∧ (Kd.R k36 36 w' w.heap.size (fun k_ => some k_ ≠ (.slice i5 h7.length i3 : Value).ownBlock) (.slice i9 i6.length j0) i6) ∧ (w'.heap[g4]? = some (.cells #[.int .i64 h8, .int .i64 i1, .slice i5 h7.length i3] 25 (0, 0))) ∧ (w'.heap[f2]? = some (.cells #[.int .i64 j3, .int .i64 k0, .int .i64 k4, .int .i64 l4, .int .i64 m0] 27 (0, 0))) ∧ (w'.heap[f0]? = some (.cells #[.int .i64 4, .int .i64 0, .int .i64 0, .int .i64 0, .int .i64 0] 27 (0, 0))) ∧ (w'.heap[f6]? = some (.cells #[.int .i64 2, .int .i64 0, .int .i64 0, .int .i64 0, .int .i64 0] 27 (0, 0))) ∧ (w'.heap[f3]? = some (.cells #[.int .i64 3, .int .i64 0, .int .i64 0, .int .i64 0, .int .i64 0] 27 (0, 0))) ∧ (w'.heap[i0]? = some (.cells #[.int .i64 l7, .int .i64 l9, .slice m2 l5.length m3] 25 (0, 0))) ∧ (w'.heap[e1]? = some (.cells #[.int .i64 k6, .int .i64 k7, .slice i9 i6.length j0] 25 (0, 0))) ∧ (Below w.heap.size w w') ∧ (b 8 = true → Kd.R k27 27 w' w.heap.size (fun k_ => some k_ ≠ (.slice k2 y119.length k3 : Value).ownBlock ∧ k_ ≠ f2 ∧ k_ ≠ f0 ∧ k_ ≠ f6 ∧ k_ ≠ f3) f9 y136) ∧ (b 9 = true → Kd.V k36 36 w' w.heap.size (fun k_ => some k_ ≠ (.slice k2 y119.length k3 : Value).ownBlock ∧ some k_ ≠ (.slice i9 i6.length j0 : Value).ownBlock ∧ k_ ≠ g4 ∧ k_ ≠ f2 ∧ k_ ≠ f0 ∧ k_ ≠ f6 ∧ k_ ≠ f3 ∧ k_ ≠ i0 ∧ k_ ≠ e1) g7 r9) ∧ (b 17 = true → Kd.R k27 27 w' w.heap.size (fun k_ => some k_ ≠ (.slice k2 y119.length k3 : Value).ownBlock ∧ k_ ≠ f2 ∧ k_ ≠ f0 ∧ k_ ≠ f6 ∧ k_ ≠ f3) g0 y145) ∧ (b 18 = true → Kd.V k36 36 w' w.heap.size (fun k_ => some k_ ≠ (.slice k2 y119.length k3 : Value).ownBlock ∧ some k_ ≠ (.slice i9 i6.length j0 : Value).ownBlock ∧ k_ ≠ g4 ∧ k_ ≠ f2 ∧ k_ ≠ f0 ∧ k_ ≠ f6 ∧ k_ ≠ f3 ∧ k_ ≠ i0 ∧ k_ ≠ e1) g5 p8) ∧ (b 22 = true → Kd.R k27 27 w' w.heap.size (fun k_ => some k_ ≠ (.slice k2 y119.length k3 : Value).ownBlock ∧ k_ ≠ f2 ∧ k_ ≠ f0 ∧ k_ ≠ f6 ∧ k_ ≠ f3) g1 y153) ∧ (b 23 = true → Kd.V k36 36 w' w.heap.size (fun k_ => some k_ ≠ (.slice k2 y119.length k3 : Value).ownBlock ∧ some k_ ≠ (.slice i9 i6.length j0 : Value).ownBlock ∧ k_ ≠ g4 ∧ k_ ≠ f2 ∧ k_ ≠ f0 ∧ k_ ≠ f6 ∧ k_ ≠ f3 ∧ k_ ≠ i0 ∧ k_ ≠ e1) g8 s4) ∧ (b 30 = true → Kd.R k27 27 w' w.heap.size (fun k_ => some k_ ≠ (.slice k2 y119.length k3 : Value).ownBlock ∧ k_ ≠ f2 ∧ k_ ≠ f0 ∧ k_ ≠ f6 ∧ k_ ≠ f3) g2 y162) ∧ (b 31 = true → Kd.V k36 36 w' w.heap.size (fun k_ => some k_ ≠ (.slice k2 y119.length k3 : Value).ownBlock ∧ some k_ ≠ (.slice i9 i6.length j0 : Value).ownBlock ∧ k_ ≠ g4 ∧ k_ ≠ f2 ∧ k_ ≠ f0 ∧ k_ ≠ f6 ∧ k_ ≠ f3 ∧ k_ ≠ i0 ∧ k_ ≠ e1) g6 p9) ∧ (b 35 = true → Kd.R k27 27 w' w.heap.size (fun k_ => some k_ ≠ (.slice k2 y119.length k3 : Value).ownBlock ∧ k_ ≠ f2 ∧ k_ ≠ f0 ∧ k_ ≠ f6 ∧ k_ ≠ f3) g3 y170) ∧ (b 36 = true → Kd.V k36 36 w' w.heap.size (fun k_ => some k_ ≠ (.slice k2 y119.length k3 : Value).ownBlock ∧ some k_ ≠ (.slice i9 i6.length j0 : Value).ownBlock ∧ k_ ≠ g4 ∧ k_ ≠ f2 ∧ k_ ≠ f0 ∧ k_ ≠ f6 ∧ k_ ≠ f3 ∧ k_ ≠ i0 ∧ k_ ≠ e1) g9 s9) ∧ (b 9 = true → (m9_ : Value) = .agg #[.int .i64 r7, .int .i64 r8, g7]) ∧ (b 18 = true → (h0 : Value) = .agg #[.int .i64 s0, .int .i64 s1, g5]) ∧ (b 23 = true → (h2 : Value) = .agg #[.int .i64 s2, .int .i64 s3, g8]) ∧ (b 31 = true → (h3 : Value) = .agg #[.int .i64 s5, .int .i64 s6, g6]) ∧ (b 36 = true → (h4 : Value) = .agg #[.int .i64 s7, .int .i64 s8, g9])) HT_.out HW_.out (by kernel_rfl) (by kernel_rfl) ?_ ?_ ?_
      ·
       exact ⟨.bool false, .bool false, .bool false, .bool false, .bool false, .bool false, .bool false, .bool false, .bool false, .bool false, .bool false, .bool false, .bool false, .bool false, .bool false, by simp only [putSel, Bool.false_eq_true, if_false], a4.out, a7.out, d1.out, d2.out, a1.out, a3.out, a2.out, a5.out, a6.out, b9.out, c1.out, HB.out, fun h_ => absurd h_ (by decide), fun h_ => absurd h_ (by decide), fun h_ => absurd h_ (by decide), fun h_ => absurd h_ (by decide), fun h_ => absurd h_ (by decide), fun h_ => absurd h_ (by decide), fun h_ => absurd h_ (by decide), fun h_ => absurd h_ (by decide), fun h_ => absurd h_ (by decide), fun h_ => absurd h_ (by decide), fun h_ => absurd h_ (by decide), fun h_ => absurd h_ (by decide), fun h_ => absurd h_ (by decide), fun h_ => absurd h_ (by decide), fun h_ => absurd h_ (by decide)⟩
      ·
       skip
       clear a1 a3 a2 a5 a6 b9 c1 HB a4 a7 d1 d2
       refine yap ?_ ?_
       ·
        rintro b a w' ⟨f9, g7, g0, g5, g1, g8, g2, g6, g3, g9, m9_, h0, h2, h3, h4, ha, a8, a9, b0, b1, b2, b3, b4, b5, b6, b7, b8, Q_HB, c3, c4, c8, d0, c7, d4, d7, d8, d6, e0, f1, d9, e4, f4, f7⟩ hb_ hon hoff
        refine ⟨_, rfl, fun K hK => ?_⟩; have e8 : a.tmps[8]? = some (.pointer (some ⟨i0, 0, none⟩)) := (by rw [ha]; exact (ybi rfl).trans rfl); replace ha := yaa ha; have a4 := yaa a8; have a7 := yaa a9; have d1 := yaa b0; have d2 := yaa b1; have a1 := yaa b2; have a3 := yaa b3; have a2 := yaa b4; have a5 := yaa b5; have a6 := yaa b6; have b9 := yaa b7; have c1 := yaa b8; have HB := yaa Q_HB; obtain ⟨hc0_, hc1_, hc2_⟩ := cc3_ b9.out
        refine value_ (w1 := w') (v := .agg #[.int .i64 l7, .int .i64 l9, .slice m2 l5.length m3]) (by rfl) rfl ?_ ?_
        ·
         go_simp
         (try simp only [i64_w])
         try rfl
        refine hK.out _ _ ⟨f9, g7, g0, g5, g1, g8, g2, g6, g3, g9, m9_, h0, h2, h3, h4, (by rw [ha.out]; exact yaq 0 hb_ rfl rfl rfl), a8, a9, b0, b1, b2, b3, b4, b5, b6, b7, b8, Q_HB, offA_ (hoff 8 (by kernel_rfl)), offA_ (hoff 9 (by kernel_rfl)), offA_ (hoff 17 (by kernel_rfl)), offA_ (hoff 18 (by kernel_rfl)), offA_ (hoff 22 (by kernel_rfl)), offA_ (hoff 23 (by kernel_rfl)), offA_ (hoff 30 (by kernel_rfl)), offA_ (hoff 31 (by kernel_rfl)), offA_ (hoff 35 (by kernel_rfl)), offA_ (hoff 36 (by kernel_rfl)), offA_ (hoff 9 (by kernel_rfl)), offA_ (hoff 18 (by kernel_rfl)), offA_ (hoff 23 (by kernel_rfl)), offA_ (hoff 31 (by kernel_rfl)), offA_ (hoff 36 (by kernel_rfl))⟩
       refine yap ?_ ?_
       ·
        rintro b a w' ⟨f9, g7, g0, g5, g1, g8, g2, g6, g3, g9, m9_, h0, h2, h3, h4, ha, a8, a9, b0, b1, b2, b3, b4, b5, b6, b7, b8, Q_HB, c3, c4, c8, d0, c7, d4, d7, d8, d6, e0, f1, d9, e4, f4, f7⟩ hb_ hon hoff
        refine ⟨_, rfl, fun K hK => ?_⟩; have e9 : a.tmps[9]? = some (.pointer (some ⟨e1, 0, none⟩)) := (by rw [ha]; exact (ybi rfl).trans rfl); replace ha := yaa ha; have a4 := yaa a8; have a7 := yaa a9; have d1 := yaa b0; have d2 := yaa b1; have a1 := yaa b2; have a3 := yaa b3; have a2 := yaa b4; have a5 := yaa b5; have a6 := yaa b6; have b9 := yaa b7; have c1 := yaa b8; have HB := yaa Q_HB; obtain ⟨hc0_, hc1_, hc2_⟩ := cc3_ c1.out
        refine value_ (w1 := w') (v := .agg #[.int .i64 k6, .int .i64 k7, .slice i9 i6.length j0]) (by rfl) rfl ?_ ?_
        ·
         go_simp
         (try simp only [i64_w])
         try rfl
        refine hK.out _ _ ⟨f9, g7, g0, g5, g1, g8, g2, g6, g3, g9, m9_, h0, h2, h3, h4, (by rw [ha.out]; exact yaq 1 hb_ rfl rfl rfl), a8, a9, b0, b1, b2, b3, b4, b5, b6, b7, b8, Q_HB, offA_ (hoff 8 (by kernel_rfl)), offA_ (hoff 9 (by kernel_rfl)), offA_ (hoff 17 (by kernel_rfl)), offA_ (hoff 18 (by kernel_rfl)), offA_ (hoff 22 (by kernel_rfl)), offA_ (hoff 23 (by kernel_rfl)), offA_ (hoff 30 (by kernel_rfl)), offA_ (hoff 31 (by kernel_rfl)), offA_ (hoff 35 (by kernel_rfl)), offA_ (hoff 36 (by kernel_rfl)), offA_ (hoff 9 (by kernel_rfl)), offA_ (hoff 18 (by kernel_rfl)), offA_ (hoff 23 (by kernel_rfl)), offA_ (hoff 31 (by kernel_rfl)), offA_ (hoff 36 (by kernel_rfl))⟩
       refine yap ?_ ?_
       ·
        rintro b a w' ⟨f9, g7, g0, g5, g1, g8, g2, g6, g3, g9, m9_, h0, h2, h3, h4, ha, a8, a9, b0, b1, b2, b3, b4, b5, b6, b7, b8, Q_HB, c3, c4, c8, d0, c7, d4, d7, d8, d6, e0, f1, d9, e4, f4, f7⟩ hb_ hon hoff
        refine ⟨_, rfl, fun K hK => ?_⟩; have e41 : a.tmps[41]? = some (.agg #[.int .i64 l7, .int .i64 l9, .slice m2 l5.length m3]) := (by rw [ha]; exact yaj (e := (0, 41, .agg #[.int .i64 l7, .int .i64 l9, .slice m2 l5.length m3])) 0 rfl rfl (hon 0 (by kernel_rfl)) rfl); have e42 : a.tmps[42]? = some (.agg #[.int .i64 k6, .int .i64 k7, .slice i9 i6.length j0]) := (by rw [ha]; exact yaj (e := (1, 42, .agg #[.int .i64 k6, .int .i64 k7, .slice i9 i6.length j0])) 1 rfl rfl (hon 1 (by kernel_rfl)) rfl); replace ha := yaa ha; have a4 := yaa a8; have a7 := yaa a9; have d1 := yaa b0; have d2 := yaa b1; have a1 := yaa b2; have a3 := yaa b3; have a2 := yaa b4; have a5 := yaa b5; have a6 := yaa b6; have b9 := yaa b7; have c1 := yaa b8; have HB := yaa Q_HB
        refine goes_ Try.func13 (by kernel_rfl) rfl #[.agg #[.int .i64 l7, .int .i64 l9, .slice m2 l5.length m3], .agg #[.int .i64 k6, .int .i64 k7, .slice i9 i6.length j0]] (by first | rfl | (simp [Region.wanted, yielded, *]; done)) rfl rfl (by first | (simp only [List.map_toArray, List.map_cons, List.map_nil, Act.eval, Array.getD_eq_getD_getElem?, Option.getD_some, e41, e42]; done) | (simp only [List.map_toArray, List.map_cons, List.map_nil, Act.eval, Array.getD_eq_getD_getElem?, Option.getD_some, e41, e42]; rfl)) ?_
        with_reducible refine (laws_eaRas.calls k l7 l9 _ _ l5 k6 k7 _ _ i6 true _ ?side1 ?side2 ?side3 ?side4 A8.out).mono ?_
        (case side1 => repeat (first | exact (Kd.V_reads' d1.out).2.2 | (with_reducible refine ybk ?_ _) | (with_reducible refine ybl ?_ _) | (with_reducible refine ybn ?_)))
        (case side2 => exact (Kd.V_reads' d1.out).2.1)
        (case side3 => repeat (first | exact (ybm d2.out).2.2 | (with_reducible refine ybk ?_ _) | (with_reducible refine ybl ?_ _) | (with_reducible refine ybn ?_)))
        (case side4 => exact (ybm d2.out).2.1)
        rintro e w72 ⟨rfl, hb⟩; refine ⟨_, rfl, ?_⟩; have n0_ := yaa (yaw (upQ a4.out) hb); have n1_ := yaa (yak (upR a7.out) hb); have n2_ := yaa (yax (upV d1.out) hb); have n3_ := yaa (yak (upR d2.out) hb); have n4_ := yaa (yae (upB a1.out) hb); have n5_ := yaa (yae (upB a3.out) hb); have n6_ := yaa (yae (upB a2.out) hb); have n7_ := yaa (yae (upB a5.out) hb); have n8_ := yaa (yae (upB a6.out) hb); have n9_ := yaa (yae (upB b9.out) hb); have i7 := yaa (yae (upB c1.out) hb)
        have i8 := yaa (yar (by repeat (with_reducible first | exact HB.out | apply yah | apply yaf | apply yag | refine yai ?_ (Aside0.out ‹_›))) hb)
        clear a4; clear a7; clear d1; clear d2; clear a1; clear a3; clear a2; clear a5; clear a6; clear b9; clear c1; clear HB; have a4 := n0_; have a7 := n1_; have d1 := n2_; have d2 := n3_; have a1 := n4_; have a3 := n5_; have a2 := n6_; have a5 := n7_; have a6 := n8_; have b9 := n9_; have c1 := i7; have HB := i8; clear n0_ n1_ n2_ n3_ n4_ n5_ n6_ n7_ n8_ n9_ i7 i8; (try clear hb); (try clear hb2); (try clear hk); (try clear hi)
        refine hK.out _ _ ⟨f9, g7, g0, g5, g1, g8, g2, g6, g3, g9, m9_, h0, h2, h3, h4, (by rw [ha.out]; exact yaq 2 hb_ rfl rfl rfl), (upQ a4.out), (upR a7.out), (upV d1.out), (upR d2.out), (upB a1.out), (upB a3.out), (upB a2.out), (upB a5.out), (upB a6.out), (upB b9.out), (upB c1.out), (by repeat (with_reducible first | exact HB.out | apply yah | apply yaf | apply yag | refine yai ?_ (Aside0.out ‹_›))), offA_ (hoff 8 (by kernel_rfl)), offA_ (hoff 9 (by kernel_rfl)), offA_ (hoff 17 (by kernel_rfl)), offA_ (hoff 18 (by kernel_rfl)), offA_ (hoff 22 (by kernel_rfl)), offA_ (hoff 23 (by kernel_rfl)), offA_ (hoff 30 (by kernel_rfl)), offA_ (hoff 31 (by kernel_rfl)), offA_ (hoff 35 (by kernel_rfl)), offA_ (hoff 36 (by kernel_rfl)), offA_ (hoff 9 (by kernel_rfl)), offA_ (hoff 18 (by kernel_rfl)), offA_ (hoff 23 (by kernel_rfl)), offA_ (hoff 31 (by kernel_rfl)), offA_ (hoff 36 (by kernel_rfl))⟩
       refine yap ?_ ?_
       ·
        rintro b a w' ⟨f9, g7, g0, g5, g1, g8, g2, g6, g3, g9, m9_, h0, h2, h3, h4, ha, a8, a9, b0, b1, b2, b3, b4, b5, b6, b7, b8, Q_HB, c3, c4, c8, d0, c7, d4, d7, d8, d6, e0, f1, d9, e4, f4, f7⟩ hb_ hon hoff
        refine ⟨_, rfl, fun K hK => ?_⟩; have e43 : a.tmps[43]? = some (.bool true) := (by rw [ha]; exact yaj (e := (2, 43, .bool true)) 2 rfl rfl (hon 2 (by kernel_rfl)) rfl); replace ha := yaa ha; have a4 := yaa a8; have a7 := yaa a9; have d1 := yaa b0; have d2 := yaa b1; have a1 := yaa b2; have a3 := yaa b3; have a2 := yaa b4; have a5 := yaa b5; have a6 := yaa b6; have b9 := yaa b7; have c1 := yaa b8; have HB := yaa Q_HB
        refine value_ (w1 := w') (v := .bool true) (by rfl) rfl ?_ ?_
        ·
         go_simp
         (try simp only [i64_w])
         try rfl
        refine hK.out _ _ ⟨f9, g7, g0, g5, g1, g8, g2, g6, g3, g9, m9_, h0, h2, h3, h4, (by rw [ha.out]; exact yaq 3 hb_ rfl rfl rfl), a8, a9, b0, b1, b2, b3, b4, b5, b6, b7, b8, Q_HB, offA_ (hoff 8 (by kernel_rfl)), offA_ (hoff 9 (by kernel_rfl)), offA_ (hoff 17 (by kernel_rfl)), offA_ (hoff 18 (by kernel_rfl)), offA_ (hoff 22 (by kernel_rfl)), offA_ (hoff 23 (by kernel_rfl)), offA_ (hoff 30 (by kernel_rfl)), offA_ (hoff 31 (by kernel_rfl)), offA_ (hoff 35 (by kernel_rfl)), offA_ (hoff 36 (by kernel_rfl)), offA_ (hoff 9 (by kernel_rfl)), offA_ (hoff 18 (by kernel_rfl)), offA_ (hoff 23 (by kernel_rfl)), offA_ (hoff 31 (by kernel_rfl)), offA_ (hoff 36 (by kernel_rfl))⟩
       refine yap ?_ ?_
       ·
        rintro b a w' ⟨f9, g7, g0, g5, g1, g8, g2, g6, g3, g9, m9_, h0, h2, h3, h4, ha, a8, a9, b0, b1, b2, b3, b4, b5, b6, b7, b8, Q_HB, c3, c4, c8, d0, c7, d4, d7, d8, d6, e0, f1, d9, e4, f4, f7⟩ hb_ hon hoff
        refine ⟨_, rfl, fun K hK => ?_⟩; have e8 : a.tmps[8]? = some (.pointer (some ⟨i0, 0, none⟩)) := (by rw [ha]; exact (ybi rfl).trans rfl); have e44 : a.tmps[44]? = some (.bool true) := (by rw [ha]; exact yaj (e := (3, 44, .bool true)) 3 rfl rfl (hon 3 (by kernel_rfl)) rfl); replace ha := yaa ha; have a4 := yaa a8; have a7 := yaa a9; have d1 := yaa b0; have d2 := yaa b1; have a1 := yaa b2; have a3 := yaa b3; have a2 := yaa b4; have a5 := yaa b5; have a6 := yaa b6; have b9 := yaa b7; have c1 := yaa b8; have HB := yaa Q_HB; obtain ⟨hc0_, hc1_, hc2_⟩ := cc3_ b9.out
        refine value_ (w1 := w') (v := .agg #[.int .i64 l7, .int .i64 l9, .slice m2 l5.length m3]) (ybo rfl rfl rfl (e44.trans (by first | rfl | (simp [*]; done)))) rfl ?_ ?_
        ·
         go_simp
         (try simp only [i64_w])
         try rfl
        refine hK.out _ _ ⟨f9, g7, g0, g5, g1, g8, g2, g6, g3, g9, m9_, h0, h2, h3, h4, (by rw [ha.out]; exact yaq 4 hb_ rfl rfl rfl), a8, a9, b0, b1, b2, b3, b4, b5, b6, b7, b8, Q_HB, c3, offA_ (hoff 9 (by kernel_rfl)), offA_ (hoff 17 (by kernel_rfl)), offA_ (hoff 18 (by kernel_rfl)), offA_ (hoff 22 (by kernel_rfl)), offA_ (hoff 23 (by kernel_rfl)), offA_ (hoff 30 (by kernel_rfl)), offA_ (hoff 31 (by kernel_rfl)), offA_ (hoff 35 (by kernel_rfl)), offA_ (hoff 36 (by kernel_rfl)), offA_ (hoff 9 (by kernel_rfl)), offA_ (hoff 18 (by kernel_rfl)), offA_ (hoff 23 (by kernel_rfl)), offA_ (hoff 31 (by kernel_rfl)), offA_ (hoff 36 (by kernel_rfl))⟩
       refine yap ?_ ?_
       ·
        rintro b a w' ⟨f9, g7, g0, g5, g1, g8, g2, g6, g3, g9, m9_, h0, h2, h3, h4, ha, a8, a9, b0, b1, b2, b3, b4, b5, b6, b7, b8, Q_HB, c3, c4, c8, d0, c7, d4, d7, d8, d6, e0, f1, d9, e4, f4, f7⟩ hb_ hon hoff
        refine ⟨_, rfl, fun K hK => ?_⟩; have e5 : a.tmps[5]? = some (.pointer (some ⟨f0, 0, none⟩)) := (by rw [ha]; exact (ybi rfl).trans rfl); have e44 : a.tmps[44]? = some (.bool true) := (by rw [ha]; exact yaj (e := (3, 44, .bool true)) 3 rfl rfl (hon 3 (by kernel_rfl)) rfl); replace ha := yaa ha; have a4 := yaa a8; have a7 := yaa a9; have d1 := yaa b0; have d2 := yaa b1; have a1 := yaa b2; have a3 := yaa b3; have a2 := yaa b4; have a5 := yaa b5; have a6 := yaa b6; have b9 := yaa b7; have c1 := yaa b8; have HB := yaa Q_HB; obtain ⟨hc0_, hc1_, hc2_, hc3_, hc4_⟩ := cc5_ a2.out
        refine value_ (w1 := w') (v := .agg #[.int .i64 4, .int .i64 0, .int .i64 0, .int .i64 0, .int .i64 0]) (ybo rfl rfl rfl (e44.trans (by first | rfl | (simp [*]; done)))) rfl ?_ ?_
        ·
         go_simp
         (try simp only [i64_w])
         try rfl
        refine hK.out _ _ ⟨f9, g7, g0, g5, g1, g8, g2, g6, g3, g9, m9_, h0, h2, h3, h4, (by rw [ha.out]; exact yaq 5 hb_ rfl rfl rfl), a8, a9, b0, b1, b2, b3, b4, b5, b6, b7, b8, Q_HB, offA_ (hoff 8 (by kernel_rfl)), offA_ (hoff 9 (by kernel_rfl)), offA_ (hoff 17 (by kernel_rfl)), offA_ (hoff 18 (by kernel_rfl)), offA_ (hoff 22 (by kernel_rfl)), offA_ (hoff 23 (by kernel_rfl)), offA_ (hoff 30 (by kernel_rfl)), offA_ (hoff 31 (by kernel_rfl)), offA_ (hoff 35 (by kernel_rfl)), offA_ (hoff 36 (by kernel_rfl)), offA_ (hoff 9 (by kernel_rfl)), offA_ (hoff 18 (by kernel_rfl)), offA_ (hoff 23 (by kernel_rfl)), offA_ (hoff 31 (by kernel_rfl)), offA_ (hoff 36 (by kernel_rfl))⟩
       refine yap ?_ ?_
       ·
        rintro b a w' ⟨f9, g7, g0, g5, g1, g8, g2, g6, g3, g9, m9_, h0, h2, h3, h4, ha, a8, a9, b0, b1, b2, b3, b4, b5, b6, b7, b8, Q_HB, c3, c4, c8, d0, c7, d4, d7, d8, d6, e0, f1, d9, e4, f4, f7⟩ hb_ hon hoff
        refine ⟨_, rfl, fun K hK => ?_⟩; have e5 : a.tmps[5]? = some (.pointer (some ⟨f0, 0, none⟩)) := (by rw [ha]; exact (ybi rfl).trans rfl); have e44 : a.tmps[44]? = some (.bool true) := (by rw [ha]; exact yaj (e := (3, 44, .bool true)) 3 rfl rfl (hon 3 (by kernel_rfl)) rfl); replace ha := yaa ha; have a4 := yaa a8; have a7 := yaa a9; have d1 := yaa b0; have d2 := yaa b1; have a1 := yaa b2; have a3 := yaa b3; have a2 := yaa b4; have a5 := yaa b5; have a6 := yaa b6; have b9 := yaa b7; have c1 := yaa b8; have HB := yaa Q_HB; obtain ⟨hc0_, hc1_, hc2_, hc3_, hc4_⟩ := cc5_ a2.out
        refine value_ (w1 := w') (v := .agg #[.int .i64 4, .int .i64 0, .int .i64 0, .int .i64 0, .int .i64 0]) (ybo rfl rfl rfl (e44.trans (by first | rfl | (simp [*]; done)))) rfl ?_ ?_
        ·
         go_simp
         (try simp only [i64_w])
         try rfl
        refine hK.out _ _ ⟨f9, g7, g0, g5, g1, g8, g2, g6, g3, g9, m9_, h0, h2, h3, h4, (by rw [ha.out]; exact yaq 6 hb_ rfl rfl rfl), a8, a9, b0, b1, b2, b3, b4, b5, b6, b7, b8, Q_HB, offA_ (hoff 8 (by kernel_rfl)), offA_ (hoff 9 (by kernel_rfl)), offA_ (hoff 17 (by kernel_rfl)), offA_ (hoff 18 (by kernel_rfl)), offA_ (hoff 22 (by kernel_rfl)), offA_ (hoff 23 (by kernel_rfl)), offA_ (hoff 30 (by kernel_rfl)), offA_ (hoff 31 (by kernel_rfl)), offA_ (hoff 35 (by kernel_rfl)), offA_ (hoff 36 (by kernel_rfl)), offA_ (hoff 9 (by kernel_rfl)), offA_ (hoff 18 (by kernel_rfl)), offA_ (hoff 23 (by kernel_rfl)), offA_ (hoff 31 (by kernel_rfl)), offA_ (hoff 36 (by kernel_rfl))⟩
       refine yap ?_ ?_
       ·
        rintro b a w' ⟨f9, g7, g0, g5, g1, g8, g2, g6, g3, g9, m9_, h0, h2, h3, h4, ha, a8, a9, b0, b1, b2, b3, b4, b5, b6, b7, b8, Q_HB, c3, c4, c8, d0, c7, d4, d7, d8, d6, e0, f1, d9, e4, f4, f7⟩ hb_ hon hoff
        refine ⟨_, rfl, fun K hK => ?_⟩; have e5 : a.tmps[5]? = some (.pointer (some ⟨f0, 0, none⟩)) := (by rw [ha]; exact (ybi rfl).trans rfl); have e44 : a.tmps[44]? = some (.bool true) := (by rw [ha]; exact yaj (e := (3, 44, .bool true)) 3 rfl rfl (hon 3 (by kernel_rfl)) rfl); replace ha := yaa ha; have a4 := yaa a8; have a7 := yaa a9; have d1 := yaa b0; have d2 := yaa b1; have a1 := yaa b2; have a3 := yaa b3; have a2 := yaa b4; have a5 := yaa b5; have a6 := yaa b6; have b9 := yaa b7; have c1 := yaa b8; have HB := yaa Q_HB; obtain ⟨hc0_, hc1_, hc2_, hc3_, hc4_⟩ := cc5_ a2.out
        refine value_ (w1 := w') (v := .agg #[.int .i64 4, .int .i64 0, .int .i64 0, .int .i64 0, .int .i64 0]) (ybo rfl rfl rfl (e44.trans (by first | rfl | (simp [*]; done)))) rfl ?_ ?_
        ·
         go_simp
         (try simp only [i64_w])
         try rfl
        refine hK.out _ _ ⟨f9, g7, g0, g5, g1, g8, g2, g6, g3, g9, m9_, h0, h2, h3, h4, (by rw [ha.out]; exact yaq 7 hb_ rfl rfl rfl), a8, a9, b0, b1, b2, b3, b4, b5, b6, b7, b8, Q_HB, offA_ (hoff 8 (by kernel_rfl)), offA_ (hoff 9 (by kernel_rfl)), offA_ (hoff 17 (by kernel_rfl)), offA_ (hoff 18 (by kernel_rfl)), offA_ (hoff 22 (by kernel_rfl)), offA_ (hoff 23 (by kernel_rfl)), offA_ (hoff 30 (by kernel_rfl)), offA_ (hoff 31 (by kernel_rfl)), offA_ (hoff 35 (by kernel_rfl)), offA_ (hoff 36 (by kernel_rfl)), offA_ (hoff 9 (by kernel_rfl)), offA_ (hoff 18 (by kernel_rfl)), offA_ (hoff 23 (by kernel_rfl)), offA_ (hoff 31 (by kernel_rfl)), offA_ (hoff 36 (by kernel_rfl))⟩
       refine yap ?_ ?_
       ·
        rintro b a w' ⟨f9, g7, g0, g5, g1, g8, g2, g6, g3, g9, m9_, h0, h2, h3, h4, ha, a8, a9, b0, b1, b2, b3, b4, b5, b6, b7, b8, Q_HB, c3, c4, c8, d0, c7, d4, d7, d8, d6, e0, f1, d9, e4, f4, f7⟩ hb_ hon hoff
        refine ⟨_, rfl, fun K hK => ?_⟩; have e46 : a.tmps[46]? = some (.agg #[.int .i64 4, .int .i64 0, .int .i64 0, .int .i64 0, .int .i64 0]) := (by rw [ha]; exact yaj (e := (5, 46, .agg #[.int .i64 4, .int .i64 0, .int .i64 0, .int .i64 0, .int .i64 0])) 5 rfl rfl (hon 5 (by kernel_rfl)) rfl); have e47 : a.tmps[47]? = some (.agg #[.int .i64 4, .int .i64 0, .int .i64 0, .int .i64 0, .int .i64 0]) := (by rw [ha]; exact yaj (e := (6, 47, .agg #[.int .i64 4, .int .i64 0, .int .i64 0, .int .i64 0, .int .i64 0])) 6 rfl rfl (hon 6 (by kernel_rfl)) rfl); have e48 : a.tmps[48]? = some (.agg #[.int .i64 4, .int .i64 0, .int .i64 0, .int .i64 0, .int .i64 0]) := (by rw [ha]; exact yaj (e := (7, 48, .agg #[.int .i64 4, .int .i64 0, .int .i64 0, .int .i64 0, .int .i64 0])) 7 rfl rfl (hon 7 (by kernel_rfl)) rfl); have e44 : a.tmps[44]? = some (.bool true) := (by rw [ha]; exact yaj (e := (3, 44, .bool true)) 3 rfl rfl (hon 3 (by kernel_rfl)) rfl); replace ha := yaa ha; have a4 := yaa a8; have a7 := yaa a9; have d1 := yaa b0; have d2 := yaa b1; have a1 := yaa b2; have a3 := yaa b3; have a2 := yaa b4; have a5 := yaa b5; have a6 := yaa b6; have b9 := yaa b7; have c1 := yaa b8; have HB := yaa Q_HB
        refine Kd.R_lit_step k27 _ 27 ?hg (N := 49) ?hd (xs := ([(⟨4, 0, 0, 0, 0⟩ : S27), (⟨4, 0, 0, 0, 0⟩ : S27), (⟨4, 0, 0, 0, 0⟩ : S27)] : List (S27))) (inner := [.int .i64 4, .int .i64 0, .int .i64 0, .int .i64 0, .int .i64 0, .int .i64 4, .int .i64 0, .int .i64 0, .int .i64 0, .int .i64 0, .int .i64 4, .int .i64 0, .int .i64 0, .int .i64 0, .int .i64 0]) (ok := fun _ => True) (okp := fun _ => True) ?hr ?hp (fun _ hk => hk) trivial (Below.refl _ _) (Nat.le_refl _) (by simp) ?_; (case hd => rfl); (case hg => first | rfl | (simp [Region.wanted, yielded, *]; done)); (case hr => first | (go_simp; done) | (go_simp; rfl)); (case hp => exact (Reps.c5 (show Kd.M k27 _ _ _ (⟨4, 0, 0, 0, 0⟩ : S27) [.int .i64 4, .int .i64 0, .int .i64 0, .int .i64 0, .int .i64 0] from (k27_mkM _ _ _ (⟨4, 0, 0, 0, 0⟩ : S27) )) (Reps.c5 (show Kd.M k27 _ _ _ (⟨4, 0, 0, 0, 0⟩ : S27) [.int .i64 4, .int .i64 0, .int .i64 0, .int .i64 0, .int .i64 0] from (k27_mkM _ _ _ (⟨4, 0, 0, 0, 0⟩ : S27) )) (Reps.c5 (show Kd.M k27 _ _ _ (⟨4, 0, 0, 0, 0⟩ : S27) [.int .i64 4, .int .i64 0, .int .i64 0, .int .i64 0, .int .i64 0] from (k27_mkM _ _ _ (⟨4, 0, 0, 0, 0⟩ : S27) )) (Reps.none _ _)))))
        intro f9 w74 p7 hb hg_ hnew_; clear hg_ hnew_
        (first | rw [← Ny136.out] at p7 | (simp only [Int.reduceToNat] at p7; rw [← Ny136.out] at p7))
        have n0_ := yaa (yaw (upQ a4.out) hb); have n1_ := yaa (yba (upR a7.out) (yat p7) hb); have n2_ := yaa (ybf (upV d1.out) (yat p7) hb); have n3_ := yaa (yak (upR d2.out) hb)
        have n4_ := yaa (Kd.R_lower (ybe (ybe (ybe (ybe (Kd.R_new' p7 (ybc (upR a7.out))) (upB a3.out)) (upB a2.out)) (upB a5.out)) (upB a6.out)) (yaz (by repeat (with_reducible first | exact HB.out | apply yah | apply yaf | apply yag | refine yai ?_ (Aside0.out ‹_›)))))
        have n5_ := yaa (yae (upB a1.out) hb); have n6_ := yaa (yae (upB a3.out) hb); have n7_ := yaa (yae (upB a2.out) hb); have n8_ := yaa (yae (upB a5.out) hb); have n9_ := yaa (yae (upB a6.out) hb); have i7 := yaa (yae (upB b9.out) hb); have i8 := yaa (yae (upB c1.out) hb)
        have j2 := yaa (yar (by repeat (with_reducible first | exact HB.out | apply yah | apply yaf | apply yag | refine yai ?_ (Aside0.out ‹_›))) hb)
        clear a4; clear a7; clear d1; clear d2; clear a1; clear a3; clear a2; clear a5; clear a6; clear b9; clear c1; clear HB; have a4 := n0_; have a7 := n1_; have d1 := n2_; have d2 := n3_; have c6 := n4_; have a1 := n5_; have a3 := n6_; have a2 := n7_; have a5 := n8_; have a6 := n9_; have b9 := i7; have c1 := i8; have HB := j2; clear n0_ n1_ n2_ n3_ n4_ n5_ n6_ n7_ n8_ n9_ i7 i8 j2; clear hb p7
        refine hK.out _ _ ⟨f9, g7, g0, g5, g1, g8, g2, g6, g3, g9, m9_, h0, h2, h3, h4, (by rw [ha.out]; exact yaq 8 hb_ rfl rfl rfl), (upQ a4.out), (by (with_reducible repeat (first | apply yau | apply yav | apply yay)); exact ybb a7.out (fun _ hk => by grind)), (by (with_reducible repeat (first | apply ybg | apply ybh | apply ybj)); exact yan d1.out (fun _ hk => by grind)), (upR d2.out), (upB a1.out), (upB a3.out), (upB a2.out), (upB a5.out), (upB a6.out), (upB b9.out), (upB c1.out), (by repeat (with_reducible first | exact HB.out | apply yah | apply yaf | apply yag | refine yai ?_ (Aside0.out ‹_›))), fun _ => (by (with_reducible repeat (first | apply yau | apply yav | apply yay)); exact ybb c6.out (fun _ hk => by grind)), offA_ (hoff 9 (by kernel_rfl)), offA_ (hoff 17 (by kernel_rfl)), offA_ (hoff 18 (by kernel_rfl)), offA_ (hoff 22 (by kernel_rfl)), offA_ (hoff 23 (by kernel_rfl)), offA_ (hoff 30 (by kernel_rfl)), offA_ (hoff 31 (by kernel_rfl)), offA_ (hoff 35 (by kernel_rfl)), offA_ (hoff 36 (by kernel_rfl)), offA_ (hoff 9 (by kernel_rfl)), offA_ (hoff 18 (by kernel_rfl)), offA_ (hoff 23 (by kernel_rfl)), offA_ (hoff 31 (by kernel_rfl)), offA_ (hoff 36 (by kernel_rfl))⟩
       refine yap ?_ ?_
       ·
        rintro b a w' ⟨f9, g7, g0, g5, g1, g8, g2, g6, g3, g9, m9_, h0, h2, h3, h4, ha, a8, a9, b0, b1, b2, b3, b4, b5, b6, b7, b8, Q_HB, c3, c4, c8, d0, c7, d4, d7, d8, d6, e0, f1, d9, e4, f4, f7⟩ hb_ hon hoff
        refine ⟨_, rfl, fun K hK => ?_⟩; have e45 : a.tmps[45]? = some (.agg #[.int .i64 l7, .int .i64 l9, .slice m2 l5.length m3]) := (by rw [ha]; exact yaj (e := (4, 45, .agg #[.int .i64 l7, .int .i64 l9, .slice m2 l5.length m3])) 4 rfl rfl (hon 4 (by kernel_rfl)) rfl); have e49 : a.tmps[49]? = some (f9) := (by rw [ha]; exact yaj (e := (8, 49, f9)) 8 rfl rfl (hon 8 (by kernel_rfl)) rfl); have e44 : a.tmps[44]? = some (.bool true) := (by rw [ha]; exact yaj (e := (3, 44, .bool true)) 3 rfl rfl (hon 3 (by kernel_rfl)) rfl); replace ha := yaa ha; have a4 := yaa a8; have a7 := yaa a9; have d1 := yaa b0; have d2 := yaa b1; have a1 := yaa b2; have a3 := yaa b3; have a2 := yaa b4; have a5 := yaa b5; have a6 := yaa b6; have b9 := yaa b7; have c1 := yaa b8; have HB := yaa Q_HB; have c6 := yaa (c3 (hon 8 (by kernel_rfl))); obtain ⟨x2, x3, x4⟩ := Kd.R_slice c6.out
        (first | subst x4 | (injection x4 with f1_ f2_ f3_; have f4_ := f1_.symm; have f5_ := f3_.symm; clear f1_ f2_ f3_; subst f4_; subst f5_))
        refine goes_ Try.func15 (by kernel_rfl) rfl #[.agg #[.int .i64 l7, .int .i64 l9, .slice m2 l5.length m3], .slice x2 y136.length x3] (by first | rfl | (simp [Region.wanted, yielded, *]; done)) rfl rfl (by first | (simp only [List.map_toArray, List.map_cons, List.map_nil, Act.eval, Array.getD_eq_getD_getElem?, Option.getD_some, e45, e49, e44]; done) | (simp only [List.map_toArray, List.map_cons, List.map_nil, Act.eval, Array.getD_eq_getD_getElem?, Option.getD_some, e45, e49, e44]; rfl)) ?_
        with_reducible refine (laws_eaDo.calls k l7 l9 (fun k_ => some k_ ≠ (.slice k2 y119.length k3 : Value).ownBlock ∧ some k_ ≠ (.slice i9 i6.length j0 : Value).ownBlock ∧ k_ ≠ g4 ∧ k_ ≠ f2 ∧ k_ ≠ f0 ∧ k_ ≠ f6 ∧ k_ ≠ f3 ∧ k_ ≠ i0 ∧ k_ ≠ e1) _ _ l5 _ _ y136 r7 r8 r9 _ ?side1 ?side2 ?side3 A10.out).mono ?_
        (case side1 => exact d1.out)
        (case side2 => repeat (first | exact (ybm c6.out).2.2 | (with_reducible refine ybk ?_ _) | (with_reducible refine ybl ?_ _) | (with_reducible refine ybn ?_)))
        (case side3 => exact (ybm c6.out).2.1)
        rintro e w77 ⟨g7, rfl, ho0, hb⟩; refine ⟨_, rfl, ?_⟩; have n0_ := yaa (yaw (upQ a4.out) hb); have n1_ := yaa (yak (upR a7.out) hb); have n2_ := yaa (yax (upV d1.out) hb); have n3_ := yaa (yak (upR d2.out) hb); have n4_ := yaa (yak (upR c6.out) hb)
        have n5_ := yaa (Kd.V_lower (yan (ok' := fun k_ => some k_ ≠ (.slice k2 y119.length k3 : Value).ownBlock ∧ some k_ ≠ (.slice i9 i6.length j0 : Value).ownBlock ∧ k_ ≠ g4 ∧ k_ ≠ f2 ∧ k_ ≠ f0 ∧ k_ ≠ f6 ∧ k_ ≠ f3 ∧ k_ ≠ i0 ∧ k_ ≠ e1) ho0 (fun k_ hk_ => ⟨Or.elim hk_ (fun hs_ => hs_.1) (fun hn_ => (ybd (ybc (upR a7.out)) k_ hn_)), Or.elim hk_ (fun hs_ => hs_.2.1) (fun hn_ => (ybd (ybc (upR d2.out)) k_ hn_)), Or.elim hk_ (fun hs_ => hs_.2.2.1) (fun hn_ => (yas (upB a1.out) k_ hn_)), Or.elim hk_ (fun hs_ => hs_.2.2.2.1) (fun hn_ => (yas (upB a3.out) k_ hn_)), Or.elim hk_ (fun hs_ => hs_.2.2.2.2.1) (fun hn_ => (yas (upB a2.out) k_ hn_)), Or.elim hk_ (fun hs_ => hs_.2.2.2.2.2.1) (fun hn_ => (yas (upB a5.out) k_ hn_)), Or.elim hk_ (fun hs_ => hs_.2.2.2.2.2.2.1) (fun hn_ => (yas (upB a6.out) k_ hn_)), Or.elim hk_ (fun hs_ => hs_.2.2.2.2.2.2.2.1) (fun hn_ => (yas (upB b9.out) k_ hn_)), Or.elim hk_ (fun hs_ => hs_.2.2.2.2.2.2.2.2) (fun hn_ => (yas (upB c1.out) k_ hn_))⟩)) (yaz (by repeat (with_reducible first | exact HB.out | apply yah | apply yaf | apply yag | refine yai ?_ (Aside0.out ‹_›)))))
        have n6_ := yaa (yae (upB a1.out) hb); have n7_ := yaa (yae (upB a3.out) hb); have n8_ := yaa (yae (upB a2.out) hb); have n9_ := yaa (yae (upB a5.out) hb); have i7 := yaa (yae (upB a6.out) hb); have i8 := yaa (yae (upB b9.out) hb); have j2 := yaa (yae (upB c1.out) hb)
        have j4 := yaa (yar (by repeat (with_reducible first | exact HB.out | apply yah | apply yaf | apply yag | refine yai ?_ (Aside0.out ‹_›))) hb)
        clear a4; clear a7; clear d1; clear d2; clear c6; clear a1; clear a3; clear a2; clear a5; clear a6; clear b9; clear c1; clear HB; have a4 := n0_; have a7 := n1_; have d1 := n2_; have d2 := n3_; have c6 := n4_; have e2 := n5_; have a1 := n6_; have a3 := n7_; have a2 := n8_; have a5 := n9_; have a6 := i7; have b9 := i8; have c1 := j2; have HB := j4; clear n0_ n1_ n2_ n3_ n4_ n5_ n6_ n7_ n8_ n9_ i7 i8 j2 j4; (try clear hb); (try clear hb2); (try clear hk); (try clear hi); (try clear ho0)
        refine hK.out _ _ ⟨.slice x2 y136.length x3, g7, g0, g5, g1, g8, g2, g6, g3, g9, (.agg #[.int .i64 r7, .int .i64 r8, g7]), h0, h2, h3, h4, (by rw [ha.out]; exact yaq 9 hb_ rfl rfl rfl), (upQ a4.out), (upR a7.out), (upV d1.out), (upR d2.out), (upB a1.out), (upB a3.out), (upB a2.out), (upB a5.out), (upB a6.out), (upB b9.out), (upB c1.out), (by repeat (with_reducible first | exact HB.out | apply yah | apply yaf | apply yag | refine yai ?_ (Aside0.out ‹_›))), fun _ => (upR c6.out), fun _ => yan (upV e2.out) (fun _ hk => by first | exact hk | grind), offA_ (hoff 17 (by kernel_rfl)), offA_ (hoff 18 (by kernel_rfl)), offA_ (hoff 22 (by kernel_rfl)), offA_ (hoff 23 (by kernel_rfl)), offA_ (hoff 30 (by kernel_rfl)), offA_ (hoff 31 (by kernel_rfl)), offA_ (hoff 35 (by kernel_rfl)), offA_ (hoff 36 (by kernel_rfl)), fun _ => rfl, offA_ (hoff 18 (by kernel_rfl)), offA_ (hoff 23 (by kernel_rfl)), offA_ (hoff 31 (by kernel_rfl)), offA_ (hoff 36 (by kernel_rfl))⟩
       refine yap ?_ ?_
       ·
        rintro b a w' ⟨f9, g7, g0, g5, g1, g8, g2, g6, g3, g9, m9_, h0, h2, h3, h4, ha, a8, a9, b0, b1, b2, b3, b4, b5, b6, b7, b8, Q_HB, c3, c4, c8, d0, c7, d4, d7, d8, d6, e0, f1, d9, e4, f4, f7⟩ hb_ hon hoff
        refine ⟨_, rfl, fun K hK => ?_⟩; have e3 : a.tmps[3]? = some (.pointer (some ⟨g4, 0, none⟩)) := (by rw [ha]; exact (ybi rfl).trans rfl); have e44 : a.tmps[44]? = some (.bool true) := (by rw [ha]; exact yaj (e := (3, 44, .bool true)) 3 rfl rfl (hon 3 (by kernel_rfl)) rfl); replace ha := yaa ha; have a4 := yaa a8; have a7 := yaa a9; have d1 := yaa b0; have d2 := yaa b1; have a1 := yaa b2; have a3 := yaa b3; have a2 := yaa b4; have a5 := yaa b5; have a6 := yaa b6; have b9 := yaa b7; have c1 := yaa b8; have HB := yaa Q_HB; obtain ⟨hc0_, hc1_, hc2_⟩ := cc3_ a1.out
        refine value_ (w1 := w') (v := .agg #[.int .i64 h8, .int .i64 i1, .slice i5 h7.length i3]) (ybo rfl rfl rfl (e44.trans (by first | rfl | (simp [*]; done)))) rfl ?_ ?_
        ·
         go_simp
         (try simp only [i64_w])
         try rfl
        refine hK.out _ _ ⟨f9, g7, g0, g5, g1, g8, g2, g6, g3, g9, m9_, h0, h2, h3, h4, (by rw [ha.out]; exact yaq 10 hb_ rfl rfl rfl), a8, a9, b0, b1, b2, b3, b4, b5, b6, b7, b8, Q_HB, c3, c4, offA_ (hoff 17 (by kernel_rfl)), offA_ (hoff 18 (by kernel_rfl)), offA_ (hoff 22 (by kernel_rfl)), offA_ (hoff 23 (by kernel_rfl)), offA_ (hoff 30 (by kernel_rfl)), offA_ (hoff 31 (by kernel_rfl)), offA_ (hoff 35 (by kernel_rfl)), offA_ (hoff 36 (by kernel_rfl)), f1, offA_ (hoff 18 (by kernel_rfl)), offA_ (hoff 23 (by kernel_rfl)), offA_ (hoff 31 (by kernel_rfl)), offA_ (hoff 36 (by kernel_rfl))⟩
       refine yap ?_ ?_
       ·
        rintro b a w' ⟨f9, g7, g0, g5, g1, g8, g2, g6, g3, g9, m9_, h0, h2, h3, h4, ha, a8, a9, b0, b1, b2, b3, b4, b5, b6, b7, b8, Q_HB, c3, c4, c8, d0, c7, d4, d7, d8, d6, e0, f1, d9, e4, f4, f7⟩ hb_ hon hoff
        refine ⟨_, rfl, fun K hK => ?_⟩; have e50 : a.tmps[50]? = some (m9_) := (by rw [ha]; exact yaj (e := (9, 50, m9_)) 9 rfl rfl (hon 9 (by kernel_rfl)) rfl)
        rw [f1 (hon 9 (by kernel_rfl))] at e50
        have e51 : a.tmps[51]? = some (.agg #[.int .i64 h8, .int .i64 i1, .slice i5 h7.length i3]) := (by rw [ha]; exact yaj (e := (10, 51, .agg #[.int .i64 h8, .int .i64 i1, .slice i5 h7.length i3])) 10 rfl rfl (hon 10 (by kernel_rfl)) rfl); have e44 : a.tmps[44]? = some (.bool true) := (by rw [ha]; exact yaj (e := (3, 44, .bool true)) 3 rfl rfl (hon 3 (by kernel_rfl)) rfl); replace ha := yaa ha; have a4 := yaa a8; have a7 := yaa a9; have d1 := yaa b0; have d2 := yaa b1; have a1 := yaa b2; have a3 := yaa b3; have a2 := yaa b4; have a5 := yaa b5; have a6 := yaa b6; have b9 := yaa b7; have c1 := yaa b8; have HB := yaa Q_HB; have c6 := yaa (c3 (hon 8 (by kernel_rfl))); have e2 := yaa (c4 (hon 9 (by kernel_rfl))); obtain ⟨x5, x6, x7⟩ := Kd.V_slice e2.out
        (first | subst x7 | (injection x7 with f1_ f2_ f3_; have f4_ := f1_.symm; have f5_ := f3_.symm; clear f1_ f2_ f3_; subst f4_; subst f5_))
        refine goes_ Try.func13 (by kernel_rfl) rfl #[.agg #[.int .i64 r7, .int .i64 r8, .slice x5 r9.length x6], .agg #[.int .i64 h8, .int .i64 i1, .slice i5 h7.length i3]] (by first | rfl | (simp [Region.wanted, yielded, *]; done)) rfl rfl (by first | (simp only [List.map_toArray, List.map_cons, List.map_nil, Act.eval, Array.getD_eq_getD_getElem?, Option.getD_some, e50, e51, e44]; done) | (simp only [List.map_toArray, List.map_cons, List.map_nil, Act.eval, Array.getD_eq_getD_getElem?, Option.getD_some, e50, e51, e44]; rfl)) ?_
        with_reducible refine (laws_eaRas.calls k r7 r8 _ _ r9 h8 i1 _ _ h7 true _ ?side1 ?side2 ?side3 ?side4 A11.out).mono ?_
        (case side1 => repeat (first | exact (Kd.V_reads' e2.out).2.2 | (with_reducible refine ybk ?_ _) | (with_reducible refine ybl ?_ _) | (with_reducible refine ybn ?_)))
        (case side2 => exact (Kd.V_reads' e2.out).2.1)
        (case side3 => repeat (first | exact (Kd.Q_reads' a4.out).2.2 | (with_reducible refine ybk ?_ _) | (with_reducible refine ybl ?_ _) | (with_reducible refine ybn ?_)))
        (case side4 => exact (Kd.Q_reads' a4.out).2.1)
        rintro e w79 ⟨rfl, hb⟩; refine ⟨_, rfl, ?_⟩; have n0_ := yaa (yaw (upQ a4.out) hb); have n1_ := yaa (yak (upR a7.out) hb); have n2_ := yaa (yax (upV d1.out) hb); have n3_ := yaa (yak (upR d2.out) hb); have n4_ := yaa (yak (upR c6.out) hb); have n5_ := yaa (yax (upV e2.out) hb); have n6_ := yaa (yae (upB a1.out) hb); have n7_ := yaa (yae (upB a3.out) hb); have n8_ := yaa (yae (upB a2.out) hb); have n9_ := yaa (yae (upB a5.out) hb); have i7 := yaa (yae (upB a6.out) hb); have i8 := yaa (yae (upB b9.out) hb); have j2 := yaa (yae (upB c1.out) hb)
        have j4 := yaa (yar (by repeat (with_reducible first | exact HB.out | apply yah | apply yaf | apply yag | refine yai ?_ (Aside0.out ‹_›))) hb)
        clear a4; clear a7; clear d1; clear d2; clear c6; clear e2; clear a1; clear a3; clear a2; clear a5; clear a6; clear b9; clear c1; clear HB; have a4 := n0_; have a7 := n1_; have d1 := n2_; have d2 := n3_; have c6 := n4_; have e2 := n5_; have a1 := n6_; have a3 := n7_; have a2 := n8_; have a5 := n9_; have a6 := i7; have b9 := i8; have c1 := j2; have HB := j4; clear n0_ n1_ n2_ n3_ n4_ n5_ n6_ n7_ n8_ n9_ i7 i8 j2 j4; (try clear hb); (try clear hb2); (try clear hk); (try clear hi)
        refine hK.out _ _ ⟨f9, .slice x5 r9.length x6, g0, g5, g1, g8, g2, g6, g3, g9, m9_, h0, h2, h3, h4, (by rw [ha.out]; exact yaq 11 hb_ rfl rfl rfl), (upQ a4.out), (upR a7.out), (upV d1.out), (upR d2.out), (upB a1.out), (upB a3.out), (upB a2.out), (upB a5.out), (upB a6.out), (upB b9.out), (upB c1.out), (by repeat (with_reducible first | exact HB.out | apply yah | apply yaf | apply yag | refine yai ?_ (Aside0.out ‹_›))), fun _ => (upR c6.out), fun _ => yan (upV e2.out) (fun _ hk => by first | exact hk | grind), offA_ (hoff 17 (by kernel_rfl)), offA_ (hoff 18 (by kernel_rfl)), offA_ (hoff 22 (by kernel_rfl)), offA_ (hoff 23 (by kernel_rfl)), offA_ (hoff 30 (by kernel_rfl)), offA_ (hoff 31 (by kernel_rfl)), offA_ (hoff 35 (by kernel_rfl)), offA_ (hoff 36 (by kernel_rfl)), f1, offA_ (hoff 18 (by kernel_rfl)), offA_ (hoff 23 (by kernel_rfl)), offA_ (hoff 31 (by kernel_rfl)), offA_ (hoff 36 (by kernel_rfl))⟩
       refine yap ?_ ?_
       ·
        rintro b a w' ⟨f9, g7, g0, g5, g1, g8, g2, g6, g3, g9, m9_, h0, h2, h3, h4, ha, a8, a9, b0, b1, b2, b3, b4, b5, b6, b7, b8, Q_HB, c3, c4, c8, d0, c7, d4, d7, d8, d6, e0, f1, d9, e4, f4, f7⟩ hb_ hon hoff
        refine ⟨_, rfl, fun K hK => ?_⟩; have e44 : a.tmps[44]? = some (.bool true) := (by rw [ha]; exact yaj (e := (3, 44, .bool true)) 3 rfl rfl (hon 3 (by kernel_rfl)) rfl); have e52 : a.tmps[52]? = some (.bool true) := (by rw [ha]; exact yaj (e := (11, 52, .bool true)) 11 rfl rfl (hon 11 (by kernel_rfl)) rfl); replace ha := yaa ha; have a4 := yaa a8; have a7 := yaa a9; have d1 := yaa b0; have d2 := yaa b1; have a1 := yaa b2; have a3 := yaa b3; have a2 := yaa b4; have a5 := yaa b5; have a6 := yaa b6; have b9 := yaa b7; have c1 := yaa b8; have HB := yaa Q_HB; have c6 := yaa (c3 (hon 8 (by kernel_rfl))); have e2 := yaa (c4 (hon 9 (by kernel_rfl)))
        refine value_ (w1 := w') (v := .bool true) (by rfl) rfl ?_ ?_
        ·
         go_simp
         (try simp only [i64_w])
         try rfl
        refine hK.out _ _ ⟨f9, g7, g0, g5, g1, g8, g2, g6, g3, g9, m9_, h0, h2, h3, h4, (by rw [ha.out]; exact yaq 12 hb_ rfl rfl rfl), a8, a9, b0, b1, b2, b3, b4, b5, b6, b7, b8, Q_HB, c3, c4, offA_ (hoff 17 (by kernel_rfl)), offA_ (hoff 18 (by kernel_rfl)), offA_ (hoff 22 (by kernel_rfl)), offA_ (hoff 23 (by kernel_rfl)), offA_ (hoff 30 (by kernel_rfl)), offA_ (hoff 31 (by kernel_rfl)), offA_ (hoff 35 (by kernel_rfl)), offA_ (hoff 36 (by kernel_rfl)), f1, offA_ (hoff 18 (by kernel_rfl)), offA_ (hoff 23 (by kernel_rfl)), offA_ (hoff 31 (by kernel_rfl)), offA_ (hoff 36 (by kernel_rfl))⟩
       refine yap ?_ ?_
       ·
        rintro b a w' ⟨f9, g7, g0, g5, g1, g8, g2, g6, g3, g9, m9_, h0, h2, h3, h4, ha, a8, a9, b0, b1, b2, b3, b4, b5, b6, b7, b8, Q_HB, c3, c4, c8, d0, c7, d4, d7, d8, d6, e0, f1, d9, e4, f4, f7⟩ hb_ hon hoff
        refine ⟨_, rfl, fun K hK => ?_⟩; have e53 : a.tmps[53]? = some (.bool true) := (by rw [ha]; exact yaj (e := (12, 53, .bool true)) 12 rfl rfl (hon 12 (by kernel_rfl)) rfl); replace ha := yaa ha; have a4 := yaa a8; have a7 := yaa a9; have d1 := yaa b0; have d2 := yaa b1; have a1 := yaa b2; have a3 := yaa b3; have a2 := yaa b4; have a5 := yaa b5; have a6 := yaa b6; have b9 := yaa b7; have c1 := yaa b8; have HB := yaa Q_HB; have c6 := yaa (c3 (hon 8 (by kernel_rfl))); have e2 := yaa (c4 (hon 9 (by kernel_rfl)))
        refine value_ (w1 := w') (v := .bool true) (by rfl) rfl ?_ ?_
        ·
         go_simp
         (try simp only [i64_w])
         try rfl
        refine hK.out _ _ ⟨f9, g7, g0, g5, g1, g8, g2, g6, g3, g9, m9_, h0, h2, h3, h4, (by rw [ha.out]; exact yaq 13 hb_ rfl rfl rfl), a8, a9, b0, b1, b2, b3, b4, b5, b6, b7, b8, Q_HB, c3, c4, offA_ (hoff 17 (by kernel_rfl)), offA_ (hoff 18 (by kernel_rfl)), offA_ (hoff 22 (by kernel_rfl)), offA_ (hoff 23 (by kernel_rfl)), offA_ (hoff 30 (by kernel_rfl)), offA_ (hoff 31 (by kernel_rfl)), offA_ (hoff 35 (by kernel_rfl)), offA_ (hoff 36 (by kernel_rfl)), f1, offA_ (hoff 18 (by kernel_rfl)), offA_ (hoff 23 (by kernel_rfl)), offA_ (hoff 31 (by kernel_rfl)), offA_ (hoff 36 (by kernel_rfl))⟩
       refine yap ?_ ?_
       ·
        rintro b a w' ⟨f9, g7, g0, g5, g1, g8, g2, g6, g3, g9, m9_, h0, h2, h3, h4, ha, a8, a9, b0, b1, b2, b3, b4, b5, b6, b7, b8, Q_HB, c3, c4, c8, d0, c7, d4, d7, d8, d6, e0, f1, d9, e4, f4, f7⟩ hb_ hon hoff
        refine ⟨_, rfl, fun K hK => ?_⟩; have e3 : a.tmps[3]? = some (.pointer (some ⟨g4, 0, none⟩)) := (by rw [ha]; exact (ybi rfl).trans rfl); have e54 : a.tmps[54]? = some (.bool true) := (by rw [ha]; exact yaj (e := (13, 54, .bool true)) 13 rfl rfl (hon 13 (by kernel_rfl)) rfl); replace ha := yaa ha; have a4 := yaa a8; have a7 := yaa a9; have d1 := yaa b0; have d2 := yaa b1; have a1 := yaa b2; have a3 := yaa b3; have a2 := yaa b4; have a5 := yaa b5; have a6 := yaa b6; have b9 := yaa b7; have c1 := yaa b8; have HB := yaa Q_HB; have c6 := yaa (c3 (hon 8 (by kernel_rfl))); have e2 := yaa (c4 (hon 9 (by kernel_rfl))); obtain ⟨hc0_, hc1_, hc2_⟩ := cc3_ a1.out
        refine value_ (w1 := w') (v := .agg #[.int .i64 h8, .int .i64 i1, .slice i5 h7.length i3]) (ybo rfl rfl rfl (e54.trans (by first | rfl | (simp [*]; done)))) rfl ?_ ?_
        ·
         go_simp
         (try simp only [i64_w])
         try rfl
        refine hK.out _ _ ⟨f9, g7, g0, g5, g1, g8, g2, g6, g3, g9, m9_, h0, h2, h3, h4, (by rw [ha.out]; exact yaq 14 hb_ rfl rfl rfl), a8, a9, b0, b1, b2, b3, b4, b5, b6, b7, b8, Q_HB, c3, c4, c8, offA_ (hoff 18 (by kernel_rfl)), c7, offA_ (hoff 23 (by kernel_rfl)), offA_ (hoff 30 (by kernel_rfl)), offA_ (hoff 31 (by kernel_rfl)), offA_ (hoff 35 (by kernel_rfl)), offA_ (hoff 36 (by kernel_rfl)), f1, offA_ (hoff 18 (by kernel_rfl)), offA_ (hoff 23 (by kernel_rfl)), offA_ (hoff 31 (by kernel_rfl)), offA_ (hoff 36 (by kernel_rfl))⟩
       refine yap ?_ ?_
       ·
        rintro b a w' ⟨f9, g7, g0, g5, g1, g8, g2, g6, g3, g9, m9_, h0, h2, h3, h4, ha, a8, a9, b0, b1, b2, b3, b4, b5, b6, b7, b8, Q_HB, c3, c4, c8, d0, c7, d4, d7, d8, d6, e0, f1, d9, e4, f4, f7⟩ hb_ hon hoff
        refine ⟨_, rfl, fun K hK => ?_⟩; have e5 : a.tmps[5]? = some (.pointer (some ⟨f0, 0, none⟩)) := (by rw [ha]; exact (ybi rfl).trans rfl); have e54 : a.tmps[54]? = some (.bool true) := (by rw [ha]; exact yaj (e := (13, 54, .bool true)) 13 rfl rfl (hon 13 (by kernel_rfl)) rfl); replace ha := yaa ha; have a4 := yaa a8; have a7 := yaa a9; have d1 := yaa b0; have d2 := yaa b1; have a1 := yaa b2; have a3 := yaa b3; have a2 := yaa b4; have a5 := yaa b5; have a6 := yaa b6; have b9 := yaa b7; have c1 := yaa b8; have HB := yaa Q_HB; have c6 := yaa (c3 (hon 8 (by kernel_rfl))); have e2 := yaa (c4 (hon 9 (by kernel_rfl))); obtain ⟨hc0_, hc1_, hc2_, hc3_, hc4_⟩ := cc5_ a2.out
        refine value_ (w1 := w') (v := .agg #[.int .i64 4, .int .i64 0, .int .i64 0, .int .i64 0, .int .i64 0]) (ybo rfl rfl rfl (e54.trans (by first | rfl | (simp [*]; done)))) rfl ?_ ?_
        ·
         go_simp
         (try simp only [i64_w])
         try rfl
        refine hK.out _ _ ⟨f9, g7, g0, g5, g1, g8, g2, g6, g3, g9, m9_, h0, h2, h3, h4, (by rw [ha.out]; exact yaq 15 hb_ rfl rfl rfl), a8, a9, b0, b1, b2, b3, b4, b5, b6, b7, b8, Q_HB, c3, c4, offA_ (hoff 17 (by kernel_rfl)), offA_ (hoff 18 (by kernel_rfl)), c7, offA_ (hoff 23 (by kernel_rfl)), offA_ (hoff 30 (by kernel_rfl)), offA_ (hoff 31 (by kernel_rfl)), offA_ (hoff 35 (by kernel_rfl)), offA_ (hoff 36 (by kernel_rfl)), f1, offA_ (hoff 18 (by kernel_rfl)), offA_ (hoff 23 (by kernel_rfl)), offA_ (hoff 31 (by kernel_rfl)), offA_ (hoff 36 (by kernel_rfl))⟩
       refine yap ?_ ?_
       ·
        rintro b a w' ⟨f9, g7, g0, g5, g1, g8, g2, g6, g3, g9, m9_, h0, h2, h3, h4, ha, a8, a9, b0, b1, b2, b3, b4, b5, b6, b7, b8, Q_HB, c3, c4, c8, d0, c7, d4, d7, d8, d6, e0, f1, d9, e4, f4, f7⟩ hb_ hon hoff
        refine ⟨_, rfl, fun K hK => ?_⟩; have e5 : a.tmps[5]? = some (.pointer (some ⟨f0, 0, none⟩)) := (by rw [ha]; exact (ybi rfl).trans rfl); have e54 : a.tmps[54]? = some (.bool true) := (by rw [ha]; exact yaj (e := (13, 54, .bool true)) 13 rfl rfl (hon 13 (by kernel_rfl)) rfl); replace ha := yaa ha; have a4 := yaa a8; have a7 := yaa a9; have d1 := yaa b0; have d2 := yaa b1; have a1 := yaa b2; have a3 := yaa b3; have a2 := yaa b4; have a5 := yaa b5; have a6 := yaa b6; have b9 := yaa b7; have c1 := yaa b8; have HB := yaa Q_HB; have c6 := yaa (c3 (hon 8 (by kernel_rfl))); have e2 := yaa (c4 (hon 9 (by kernel_rfl))); obtain ⟨hc0_, hc1_, hc2_, hc3_, hc4_⟩ := cc5_ a2.out
        refine value_ (w1 := w') (v := .agg #[.int .i64 4, .int .i64 0, .int .i64 0, .int .i64 0, .int .i64 0]) (ybo rfl rfl rfl (e54.trans (by first | rfl | (simp [*]; done)))) rfl ?_ ?_
        ·
         go_simp
         (try simp only [i64_w])
         try rfl
        refine hK.out _ _ ⟨f9, g7, g0, g5, g1, g8, g2, g6, g3, g9, m9_, h0, h2, h3, h4, (by rw [ha.out]; exact yaq 16 hb_ rfl rfl rfl), a8, a9, b0, b1, b2, b3, b4, b5, b6, b7, b8, Q_HB, c3, c4, offA_ (hoff 17 (by kernel_rfl)), offA_ (hoff 18 (by kernel_rfl)), c7, offA_ (hoff 23 (by kernel_rfl)), offA_ (hoff 30 (by kernel_rfl)), offA_ (hoff 31 (by kernel_rfl)), offA_ (hoff 35 (by kernel_rfl)), offA_ (hoff 36 (by kernel_rfl)), f1, offA_ (hoff 18 (by kernel_rfl)), offA_ (hoff 23 (by kernel_rfl)), offA_ (hoff 31 (by kernel_rfl)), offA_ (hoff 36 (by kernel_rfl))⟩
       refine yap ?_ ?_
       ·
        rintro b a w' ⟨f9, g7, g0, g5, g1, g8, g2, g6, g3, g9, m9_, h0, h2, h3, h4, ha, a8, a9, b0, b1, b2, b3, b4, b5, b6, b7, b8, Q_HB, c3, c4, c8, d0, c7, d4, d7, d8, d6, e0, f1, d9, e4, f4, f7⟩ hb_ hon hoff
        refine ⟨_, rfl, fun K hK => ?_⟩; have e56 : a.tmps[56]? = some (.agg #[.int .i64 4, .int .i64 0, .int .i64 0, .int .i64 0, .int .i64 0]) := (by rw [ha]; exact yaj (e := (15, 56, .agg #[.int .i64 4, .int .i64 0, .int .i64 0, .int .i64 0, .int .i64 0])) 15 rfl rfl (hon 15 (by kernel_rfl)) rfl); have e57 : a.tmps[57]? = some (.agg #[.int .i64 4, .int .i64 0, .int .i64 0, .int .i64 0, .int .i64 0]) := (by rw [ha]; exact yaj (e := (16, 57, .agg #[.int .i64 4, .int .i64 0, .int .i64 0, .int .i64 0, .int .i64 0])) 16 rfl rfl (hon 16 (by kernel_rfl)) rfl); have e54 : a.tmps[54]? = some (.bool true) := (by rw [ha]; exact yaj (e := (13, 54, .bool true)) 13 rfl rfl (hon 13 (by kernel_rfl)) rfl); replace ha := yaa ha; have a4 := yaa a8; have a7 := yaa a9; have d1 := yaa b0; have d2 := yaa b1; have a1 := yaa b2; have a3 := yaa b3; have a2 := yaa b4; have a5 := yaa b5; have a6 := yaa b6; have b9 := yaa b7; have c1 := yaa b8; have HB := yaa Q_HB; have c6 := yaa (c3 (hon 8 (by kernel_rfl))); have e2 := yaa (c4 (hon 9 (by kernel_rfl)))
        refine Kd.R_lit_step k27 _ 27 ?hg (N := 58) ?hd (xs := ([(⟨4, 0, 0, 0, 0⟩ : S27), (⟨4, 0, 0, 0, 0⟩ : S27)] : List (S27))) (inner := [.int .i64 4, .int .i64 0, .int .i64 0, .int .i64 0, .int .i64 0, .int .i64 4, .int .i64 0, .int .i64 0, .int .i64 0, .int .i64 0]) (ok := fun _ => True) (okp := fun _ => True) ?hr ?hp (fun _ hk => hk) trivial (Below.refl _ _) (Nat.le_refl _) (by simp) ?_; (case hd => rfl); (case hg => first | rfl | (simp [Region.wanted, yielded, *]; done)); (case hr => first | (go_simp; done) | (go_simp; rfl)); (case hp => exact (Reps.c5 (show Kd.M k27 _ _ _ (⟨4, 0, 0, 0, 0⟩ : S27) [.int .i64 4, .int .i64 0, .int .i64 0, .int .i64 0, .int .i64 0] from (k27_mkM _ _ _ (⟨4, 0, 0, 0, 0⟩ : S27) )) (Reps.c5 (show Kd.M k27 _ _ _ (⟨4, 0, 0, 0, 0⟩ : S27) [.int .i64 4, .int .i64 0, .int .i64 0, .int .i64 0, .int .i64 0] from (k27_mkM _ _ _ (⟨4, 0, 0, 0, 0⟩ : S27) )) (Reps.none _ _))))
        intro g0 w80 l6 hb hg_ hnew_; clear hg_ hnew_
        (first | rw [← Ny145.out] at l6 | (simp only [Int.reduceToNat] at l6; rw [← Ny145.out] at l6))
        have n0_ := yaa (yaw (upQ a4.out) hb); have n1_ := yaa (yba (upR a7.out) (yat l6) hb); have n2_ := yaa (ybf (upV d1.out) (yat l6) hb); have n3_ := yaa (yak (upR d2.out) hb); have n4_ := yaa (yba (upR c6.out) (yat l6) hb); have n5_ := yaa (ybf (upV e2.out) (yat l6) hb)
        have n6_ := yaa (Kd.R_lower (ybe (ybe (ybe (ybe (Kd.R_new' (Kd.R_new' l6 (ybc (upR a7.out))) (ybc (upR c6.out))) (upB a3.out)) (upB a2.out)) (upB a5.out)) (upB a6.out)) (yaz (by repeat (with_reducible first | exact HB.out | apply yah | apply yaf | apply yag | refine yai ?_ (Aside0.out ‹_›)))))
        have n7_ := yaa (yae (upB a1.out) hb); have n8_ := yaa (yae (upB a3.out) hb); have n9_ := yaa (yae (upB a2.out) hb); have i7 := yaa (yae (upB a5.out) hb); have i8 := yaa (yae (upB a6.out) hb); have j2 := yaa (yae (upB b9.out) hb); have j4 := yaa (yae (upB c1.out) hb)
        have k5 := yaa (yar (by repeat (with_reducible first | exact HB.out | apply yah | apply yaf | apply yag | refine yai ?_ (Aside0.out ‹_›))) hb)
        have p3 := fun (h0_ : b 22 = true) => (show Kd.R k27 27 w80 w.heap.size (fun k_ => some k_ ≠ (.slice k2 y119.length k3 : Value).ownBlock ∧ k_ ≠ f2 ∧ k_ ≠ f0 ∧ k_ ≠ f6 ∧ k_ ≠ f3) g1 y153 from by first | exact (yba (by (with_reducible repeat (first | apply yau | apply yav | apply yay)); exact (c7 h0_)) (yat l6) hb) | exact ybb (yba (by (with_reducible repeat (first | apply yau | apply yav | apply yay)); exact (c7 h0_)) (yat l6) hb) (fun _ h_ => by first | trivial | exact h_ | exact h_.1))
        clear a4; clear a7; clear d1; clear d2; clear c6; clear e2; clear a1; clear a3; clear a2; clear a5; clear a6; clear b9; clear c1; clear HB; have a4 := n0_; have a7 := n1_; have d1 := n2_; have d2 := n3_; have c6 := n4_; have e2 := n5_; have d3 := n6_; have a1 := n7_; have a3 := n8_; have a2 := n9_; have a5 := i7; have a6 := i8; have b9 := j2; have c1 := j4; have HB := k5; clear n0_ n1_ n2_ n3_ n4_ n5_ n6_ n7_ n8_ n9_ i7 i8 j2 j4 k5; clear hb l6
        refine hK.out _ _ ⟨f9, g7, g0, g5, g1, g8, g2, g6, g3, g9, m9_, h0, h2, h3, h4, (by rw [ha.out]; exact yaq 17 hb_ rfl rfl rfl), (upQ a4.out), (by (with_reducible repeat (first | apply yau | apply yav | apply yay)); exact ybb a7.out (fun _ hk => by grind)), (by (with_reducible repeat (first | apply ybg | apply ybh | apply ybj)); exact yan d1.out (fun _ hk => by grind)), (upR d2.out), (upB a1.out), (upB a3.out), (upB a2.out), (upB a5.out), (upB a6.out), (upB b9.out), (upB c1.out), (by repeat (with_reducible first | exact HB.out | apply yah | apply yaf | apply yag | refine yai ?_ (Aside0.out ‹_›))), fun _ => (by (with_reducible repeat (first | apply yau | apply yav | apply yay)); exact ybb c6.out (fun _ hk => by grind)), fun _ => (by (with_reducible repeat (first | apply ybg | apply ybh | apply ybj)); exact yan e2.out (fun _ hk => by grind)), fun _ => (by (with_reducible repeat (first | apply yau | apply yav | apply yay)); exact ybb d3.out (fun _ hk => by grind)), offA_ (hoff 18 (by kernel_rfl)), p3, offA_ (hoff 23 (by kernel_rfl)), offA_ (hoff 30 (by kernel_rfl)), offA_ (hoff 31 (by kernel_rfl)), offA_ (hoff 35 (by kernel_rfl)), offA_ (hoff 36 (by kernel_rfl)), f1, offA_ (hoff 18 (by kernel_rfl)), offA_ (hoff 23 (by kernel_rfl)), offA_ (hoff 31 (by kernel_rfl)), offA_ (hoff 36 (by kernel_rfl))⟩
       refine yap ?_ ?_
       ·
        rintro b a w' ⟨f9, g7, g0, g5, g1, g8, g2, g6, g3, g9, m9_, h0, h2, h3, h4, ha, a8, a9, b0, b1, b2, b3, b4, b5, b6, b7, b8, Q_HB, c3, c4, c8, d0, c7, d4, d7, d8, d6, e0, f1, d9, e4, f4, f7⟩ hb_ hon hoff
        refine ⟨_, rfl, fun K hK => ?_⟩; have e55 : a.tmps[55]? = some (.agg #[.int .i64 h8, .int .i64 i1, .slice i5 h7.length i3]) := (by rw [ha]; exact yaj (e := (14, 55, .agg #[.int .i64 h8, .int .i64 i1, .slice i5 h7.length i3])) 14 rfl rfl (hon 14 (by kernel_rfl)) rfl); have e58 : a.tmps[58]? = some (g0) := (by rw [ha]; exact yaj (e := (17, 58, g0)) 17 rfl rfl (hon 17 (by kernel_rfl)) rfl); have e54 : a.tmps[54]? = some (.bool true) := (by rw [ha]; exact yaj (e := (13, 54, .bool true)) 13 rfl rfl (hon 13 (by kernel_rfl)) rfl); replace ha := yaa ha; have a4 := yaa a8; have a7 := yaa a9; have d1 := yaa b0; have d2 := yaa b1; have a1 := yaa b2; have a3 := yaa b3; have a2 := yaa b4; have a5 := yaa b5; have a6 := yaa b6; have b9 := yaa b7; have c1 := yaa b8; have HB := yaa Q_HB; have c6 := yaa (c3 (hon 8 (by kernel_rfl))); have e2 := yaa (c4 (hon 9 (by kernel_rfl))); have d3 := yaa (c8 (hon 17 (by kernel_rfl))); obtain ⟨v4, v5, x8⟩ := Kd.R_slice d3.out
        (first | subst x8 | (injection x8 with f1_ f2_ f3_; have f4_ := f1_.symm; have f5_ := f3_.symm; clear f1_ f2_ f3_; subst f4_; subst f5_))
        refine goes_ Try.func15 (by kernel_rfl) rfl #[.agg #[.int .i64 h8, .int .i64 i1, .slice i5 h7.length i3], .slice v4 y145.length v5] (by first | rfl | (simp [Region.wanted, yielded, *]; done)) rfl rfl (by first | (simp only [List.map_toArray, List.map_cons, List.map_nil, Act.eval, Array.getD_eq_getD_getElem?, Option.getD_some, e55, e58, e54]; done) | (simp only [List.map_toArray, List.map_cons, List.map_nil, Act.eval, Array.getD_eq_getD_getElem?, Option.getD_some, e55, e58, e54]; rfl)) ?_
        with_reducible refine (laws_eaDo.calls k h8 i1 (fun k_ => some k_ = (.slice i5 h7.length i3 : Value).ownBlock) _ _ h7 _ _ y145 s0 s1 p8 _ ?side1 ?side2 ?side3 A13.out).mono ?_
        (case side1 => exact Kd.Q_V (Kd.Q_tight rfl (yab (yab (yab (yab (yab (yab (yab (yac (yac (yac (a4.out) (yad a7.out) (by decide)) (yad c6.out) (by decide)) (yad d3.out) (by decide)) a1.out (by decide)) a3.out (by decide)) a2.out (by decide)) a5.out (by decide)) a6.out (by decide)) b9.out (by decide)) c1.out (by decide))))
        (case side2 => repeat (first | exact (ybm d3.out).2.2 | (with_reducible refine ybk ?_ _) | (with_reducible refine ybl ?_ _) | (with_reducible refine ybn ?_)))
        (case side3 => exact (ybm d3.out).2.1)
        rintro e w83 ⟨g5, rfl, ho0, hb⟩; refine ⟨_, rfl, ?_⟩; have n0_ := yaa (yaw (upQ a4.out) hb); have n1_ := yaa (yak (upR a7.out) hb); have n2_ := yaa (yax (upV d1.out) hb); have n3_ := yaa (yak (upR d2.out) hb); have n4_ := yaa (yak (upR c6.out) hb); have n5_ := yaa (yax (upV e2.out) hb); have n6_ := yaa (yak (upR d3.out) hb)
        have n7_ := yaa (Kd.V_lower (yan (ok' := fun k_ => some k_ ≠ (.slice k2 y119.length k3 : Value).ownBlock ∧ some k_ ≠ (.slice i9 i6.length j0 : Value).ownBlock ∧ some k_ ≠ (f9 : Value).ownBlock ∧ some k_ ≠ (.slice v4 y145.length v5 : Value).ownBlock ∧ k_ ≠ g4 ∧ k_ ≠ f2 ∧ k_ ≠ f0 ∧ k_ ≠ f6 ∧ k_ ≠ f3 ∧ k_ ≠ i0 ∧ k_ ≠ e1) ho0 (fun k_ hk_ => ⟨Or.elim hk_ (fun hs_ => ((yab (yab (yab (yab (yab (yab (yab (yac (yac (yac (a4.out) (yad a7.out) (by decide)) (yad c6.out) (by decide)) (yad d3.out) (by decide)) a1.out (by decide)) a3.out (by decide)) a2.out (by decide)) a5.out (by decide)) a6.out (by decide)) b9.out (by decide)) c1.out (by decide)).1 k_ hs_.symm).1.1.1.1.1.1.1.1.1.2) (fun hn_ => (ybd (ybc (upR a7.out)) k_ hn_)), Or.elim hk_ (fun hs_ => ((yab (yab (yab (yab (yab (yab (yab (yac (yac (yac (a4.out) (yad a7.out) (by decide)) (yad c6.out) (by decide)) (yad d3.out) (by decide)) a1.out (by decide)) a3.out (by decide)) a2.out (by decide)) a5.out (by decide)) a6.out (by decide)) b9.out (by decide)) c1.out (by decide)).1 k_ hs_.symm).1.1.1.1.1.1.1.1.1.1) (fun hn_ => (ybd (ybc (upR d2.out)) k_ hn_)), Or.elim hk_ (fun hs_ => ((yab (yab (yab (yab (yab (yab (yab (yac (yac (yac (a4.out) (yad a7.out) (by decide)) (yad c6.out) (by decide)) (yad d3.out) (by decide)) a1.out (by decide)) a3.out (by decide)) a2.out (by decide)) a5.out (by decide)) a6.out (by decide)) b9.out (by decide)) c1.out (by decide)).1 k_ hs_.symm).1.1.1.1.1.1.1.1.2) (fun hn_ => (ybd (ybc (upR c6.out)) k_ hn_)), Or.elim hk_ (fun hs_ => ((yab (yab (yab (yab (yab (yab (yab (yac (yac (yac (a4.out) (yad a7.out) (by decide)) (yad c6.out) (by decide)) (yad d3.out) (by decide)) a1.out (by decide)) a3.out (by decide)) a2.out (by decide)) a5.out (by decide)) a6.out (by decide)) b9.out (by decide)) c1.out (by decide)).1 k_ hs_.symm).1.1.1.1.1.1.1.2) (fun hn_ => (ybd (ybc (upR d3.out)) k_ hn_)), Or.elim hk_ (fun hs_ => ((yab (yab (yab (yab (yab (yab (yab (yac (yac (yac (a4.out) (yad a7.out) (by decide)) (yad c6.out) (by decide)) (yad d3.out) (by decide)) a1.out (by decide)) a3.out (by decide)) a2.out (by decide)) a5.out (by decide)) a6.out (by decide)) b9.out (by decide)) c1.out (by decide)).1 k_ hs_.symm).1.1.1.1.1.1.2) (fun hn_ => (yas (upB a1.out) k_ hn_)), Or.elim hk_ (fun hs_ => ((yab (yab (yab (yab (yab (yab (yab (yac (yac (yac (a4.out) (yad a7.out) (by decide)) (yad c6.out) (by decide)) (yad d3.out) (by decide)) a1.out (by decide)) a3.out (by decide)) a2.out (by decide)) a5.out (by decide)) a6.out (by decide)) b9.out (by decide)) c1.out (by decide)).1 k_ hs_.symm).1.1.1.1.1.2) (fun hn_ => (yas (upB a3.out) k_ hn_)), Or.elim hk_ (fun hs_ => ((yab (yab (yab (yab (yab (yab (yab (yac (yac (yac (a4.out) (yad a7.out) (by decide)) (yad c6.out) (by decide)) (yad d3.out) (by decide)) a1.out (by decide)) a3.out (by decide)) a2.out (by decide)) a5.out (by decide)) a6.out (by decide)) b9.out (by decide)) c1.out (by decide)).1 k_ hs_.symm).1.1.1.1.2) (fun hn_ => (yas (upB a2.out) k_ hn_)), Or.elim hk_ (fun hs_ => ((yab (yab (yab (yab (yab (yab (yab (yac (yac (yac (a4.out) (yad a7.out) (by decide)) (yad c6.out) (by decide)) (yad d3.out) (by decide)) a1.out (by decide)) a3.out (by decide)) a2.out (by decide)) a5.out (by decide)) a6.out (by decide)) b9.out (by decide)) c1.out (by decide)).1 k_ hs_.symm).1.1.1.2) (fun hn_ => (yas (upB a5.out) k_ hn_)), Or.elim hk_ (fun hs_ => ((yab (yab (yab (yab (yab (yab (yab (yac (yac (yac (a4.out) (yad a7.out) (by decide)) (yad c6.out) (by decide)) (yad d3.out) (by decide)) a1.out (by decide)) a3.out (by decide)) a2.out (by decide)) a5.out (by decide)) a6.out (by decide)) b9.out (by decide)) c1.out (by decide)).1 k_ hs_.symm).1.1.2) (fun hn_ => (yas (upB a6.out) k_ hn_)), Or.elim hk_ (fun hs_ => ((yab (yab (yab (yab (yab (yab (yab (yac (yac (yac (a4.out) (yad a7.out) (by decide)) (yad c6.out) (by decide)) (yad d3.out) (by decide)) a1.out (by decide)) a3.out (by decide)) a2.out (by decide)) a5.out (by decide)) a6.out (by decide)) b9.out (by decide)) c1.out (by decide)).1 k_ hs_.symm).1.2) (fun hn_ => (yas (upB b9.out) k_ hn_)), Or.elim hk_ (fun hs_ => ((yab (yab (yab (yab (yab (yab (yab (yac (yac (yac (a4.out) (yad a7.out) (by decide)) (yad c6.out) (by decide)) (yad d3.out) (by decide)) a1.out (by decide)) a3.out (by decide)) a2.out (by decide)) a5.out (by decide)) a6.out (by decide)) b9.out (by decide)) c1.out (by decide)).1 k_ hs_.symm).2) (fun hn_ => (yas (upB c1.out) k_ hn_))⟩)) (yaz (by repeat (with_reducible first | exact HB.out | apply yah | apply yaf | apply yag | refine yai ?_ (Aside0.out ‹_›)))))
        have n8_ := yaa (yae (upB a1.out) hb); have n9_ := yaa (yae (upB a3.out) hb); have i7 := yaa (yae (upB a2.out) hb); have i8 := yaa (yae (upB a5.out) hb); have j2 := yaa (yae (upB a6.out) hb); have j4 := yaa (yae (upB b9.out) hb); have k5 := yaa (yae (upB c1.out) hb)
        have l8 := yaa (yar (by repeat (with_reducible first | exact HB.out | apply yah | apply yaf | apply yag | refine yai ?_ (Aside0.out ‹_›))) hb)
        have p3 := fun (h0_ : b 22 = true) => (show Kd.R k27 27 w83 w.heap.size (fun k_ => some k_ ≠ (.slice k2 y119.length k3 : Value).ownBlock ∧ k_ ≠ f2 ∧ k_ ≠ f0 ∧ k_ ≠ f6 ∧ k_ ≠ f3) g1 y153 from by first | exact (yak (by (with_reducible repeat (first | apply yau | apply yav | apply yay)); exact (c7 h0_)) hb) | exact ybb (yak (by (with_reducible repeat (first | apply yau | apply yav | apply yay)); exact (c7 h0_)) hb) (fun _ h_ => by first | trivial | exact h_ | exact h_.1))
        clear a4; clear a7; clear d1; clear d2; clear c6; clear e2; clear d3; clear a1; clear a3; clear a2; clear a5; clear a6; clear b9; clear c1; clear HB; have a4 := n0_; have a7 := n1_; have d1 := n2_; have d2 := n3_; have c6 := n4_; have e2 := n5_; have d3 := n6_; have h6 := n7_; have a1 := n8_; have a3 := n9_; have a2 := i7; have a5 := i8; have a6 := j2; have b9 := j4; have c1 := k5; have HB := l8; clear n0_ n1_ n2_ n3_ n4_ n5_ n6_ n7_ n8_ n9_ i7 i8 j2 j4 k5 l8; (try clear hb); (try clear hb2); (try clear hk); (try clear hi); (try clear ho0)
        refine hK.out _ _ ⟨f9, g7, .slice v4 y145.length v5, g5, g1, g8, g2, g6, g3, g9, m9_, (.agg #[.int .i64 s0, .int .i64 s1, g5]), h2, h3, h4, (by rw [ha.out]; exact yaq 18 hb_ rfl rfl rfl), (upQ a4.out), (upR a7.out), (upV d1.out), (upR d2.out), (upB a1.out), (upB a3.out), (upB a2.out), (upB a5.out), (upB a6.out), (upB b9.out), (upB c1.out), (by repeat (with_reducible first | exact HB.out | apply yah | apply yaf | apply yag | refine yai ?_ (Aside0.out ‹_›))), fun _ => (upR c6.out), fun _ => yan (upV e2.out) (fun _ hk => by first | exact hk | grind), fun _ => (upR d3.out), fun _ => yan (upV h6.out) (fun _ hk => by first | exact hk | grind), p3, offA_ (hoff 23 (by kernel_rfl)), offA_ (hoff 30 (by kernel_rfl)), offA_ (hoff 31 (by kernel_rfl)), offA_ (hoff 35 (by kernel_rfl)), offA_ (hoff 36 (by kernel_rfl)), f1, fun _ => rfl, offA_ (hoff 23 (by kernel_rfl)), offA_ (hoff 31 (by kernel_rfl)), offA_ (hoff 36 (by kernel_rfl))⟩
       refine yap ?_ ?_
       ·
        rintro b a w' ⟨f9, g7, g0, g5, g1, g8, g2, g6, g3, g9, m9_, h0, h2, h3, h4, ha, a8, a9, b0, b1, b2, b3, b4, b5, b6, b7, b8, Q_HB, c3, c4, c8, d0, c7, d4, d7, d8, d6, e0, f1, d9, e4, f4, f7⟩ hb_ hon hoff
        refine ⟨_, rfl, fun K hK => ?_⟩; have e3 : a.tmps[3]? = some (.pointer (some ⟨g4, 0, none⟩)) := (by rw [ha]; exact (ybi rfl).trans rfl); have e54 : a.tmps[54]? = some (.bool true) := (by rw [ha]; exact yaj (e := (13, 54, .bool true)) 13 rfl rfl (hon 13 (by kernel_rfl)) rfl); replace ha := yaa ha; have a4 := yaa a8; have a7 := yaa a9; have d1 := yaa b0; have d2 := yaa b1; have a1 := yaa b2; have a3 := yaa b3; have a2 := yaa b4; have a5 := yaa b5; have a6 := yaa b6; have b9 := yaa b7; have c1 := yaa b8; have HB := yaa Q_HB; have c6 := yaa (c3 (hon 8 (by kernel_rfl))); have e2 := yaa (c4 (hon 9 (by kernel_rfl))); obtain ⟨hc0_, hc1_, hc2_⟩ := cc3_ a1.out
        refine value_ (w1 := w') (v := .agg #[.int .i64 h8, .int .i64 i1, .slice i5 h7.length i3]) (ybo rfl rfl rfl (e54.trans (by first | rfl | (simp [*]; done)))) rfl ?_ ?_
        ·
         go_simp
         (try simp only [i64_w])
         try rfl
        refine hK.out _ _ ⟨f9, g7, g0, g5, g1, g8, g2, g6, g3, g9, m9_, h0, h2, h3, h4, (by rw [ha.out]; exact yaq 19 hb_ rfl rfl rfl), a8, a9, b0, b1, b2, b3, b4, b5, b6, b7, b8, Q_HB, c3, c4, c8, d0, c7, offA_ (hoff 23 (by kernel_rfl)), offA_ (hoff 30 (by kernel_rfl)), offA_ (hoff 31 (by kernel_rfl)), offA_ (hoff 35 (by kernel_rfl)), offA_ (hoff 36 (by kernel_rfl)), f1, d9, offA_ (hoff 23 (by kernel_rfl)), offA_ (hoff 31 (by kernel_rfl)), offA_ (hoff 36 (by kernel_rfl))⟩
       refine yap ?_ ?_
       ·
        rintro b a w' ⟨f9, g7, g0, g5, g1, g8, g2, g6, g3, g9, m9_, h0, h2, h3, h4, ha, a8, a9, b0, b1, b2, b3, b4, b5, b6, b7, b8, Q_HB, c3, c4, c8, d0, c7, d4, d7, d8, d6, e0, f1, d9, e4, f4, f7⟩ hb_ hon hoff
        refine ⟨_, rfl, fun K hK => ?_⟩; have e6 : a.tmps[6]? = some (.pointer (some ⟨f6, 0, none⟩)) := (by rw [ha]; exact (ybi rfl).trans rfl); have e54 : a.tmps[54]? = some (.bool true) := (by rw [ha]; exact yaj (e := (13, 54, .bool true)) 13 rfl rfl (hon 13 (by kernel_rfl)) rfl); replace ha := yaa ha; have a4 := yaa a8; have a7 := yaa a9; have d1 := yaa b0; have d2 := yaa b1; have a1 := yaa b2; have a3 := yaa b3; have a2 := yaa b4; have a5 := yaa b5; have a6 := yaa b6; have b9 := yaa b7; have c1 := yaa b8; have HB := yaa Q_HB; have c6 := yaa (c3 (hon 8 (by kernel_rfl))); have e2 := yaa (c4 (hon 9 (by kernel_rfl))); obtain ⟨hc0_, hc1_, hc2_, hc3_, hc4_⟩ := cc5_ a5.out
        refine value_ (w1 := w') (v := .agg #[.int .i64 2, .int .i64 0, .int .i64 0, .int .i64 0, .int .i64 0]) (ybo rfl rfl rfl (e54.trans (by first | rfl | (simp [*]; done)))) rfl ?_ ?_
        ·
         go_simp
         (try simp only [i64_w])
         try rfl
        refine hK.out _ _ ⟨f9, g7, g0, g5, g1, g8, g2, g6, g3, g9, m9_, h0, h2, h3, h4, (by rw [ha.out]; exact yaq 20 hb_ rfl rfl rfl), a8, a9, b0, b1, b2, b3, b4, b5, b6, b7, b8, Q_HB, c3, c4, c8, d0, offA_ (hoff 22 (by kernel_rfl)), offA_ (hoff 23 (by kernel_rfl)), offA_ (hoff 30 (by kernel_rfl)), offA_ (hoff 31 (by kernel_rfl)), offA_ (hoff 35 (by kernel_rfl)), offA_ (hoff 36 (by kernel_rfl)), f1, d9, offA_ (hoff 23 (by kernel_rfl)), offA_ (hoff 31 (by kernel_rfl)), offA_ (hoff 36 (by kernel_rfl))⟩
       refine yap ?_ ?_
       ·
        rintro b a w' ⟨f9, g7, g0, g5, g1, g8, g2, g6, g3, g9, m9_, h0, h2, h3, h4, ha, a8, a9, b0, b1, b2, b3, b4, b5, b6, b7, b8, Q_HB, c3, c4, c8, d0, c7, d4, d7, d8, d6, e0, f1, d9, e4, f4, f7⟩ hb_ hon hoff
        refine ⟨_, rfl, fun K hK => ?_⟩; have e7 : a.tmps[7]? = some (.pointer (some ⟨f3, 0, none⟩)) := (by rw [ha]; exact (ybi rfl).trans rfl); have e54 : a.tmps[54]? = some (.bool true) := (by rw [ha]; exact yaj (e := (13, 54, .bool true)) 13 rfl rfl (hon 13 (by kernel_rfl)) rfl); replace ha := yaa ha; have a4 := yaa a8; have a7 := yaa a9; have d1 := yaa b0; have d2 := yaa b1; have a1 := yaa b2; have a3 := yaa b3; have a2 := yaa b4; have a5 := yaa b5; have a6 := yaa b6; have b9 := yaa b7; have c1 := yaa b8; have HB := yaa Q_HB; have c6 := yaa (c3 (hon 8 (by kernel_rfl))); have e2 := yaa (c4 (hon 9 (by kernel_rfl))); obtain ⟨hc0_, hc1_, hc2_, hc3_, hc4_⟩ := cc5_ a6.out
        refine value_ (w1 := w') (v := .agg #[.int .i64 3, .int .i64 0, .int .i64 0, .int .i64 0, .int .i64 0]) (ybo rfl rfl rfl (e54.trans (by first | rfl | (simp [*]; done)))) rfl ?_ ?_
        ·
         go_simp
         (try simp only [i64_w])
         try rfl
        refine hK.out _ _ ⟨f9, g7, g0, g5, g1, g8, g2, g6, g3, g9, m9_, h0, h2, h3, h4, (by rw [ha.out]; exact yaq 21 hb_ rfl rfl rfl), a8, a9, b0, b1, b2, b3, b4, b5, b6, b7, b8, Q_HB, c3, c4, c8, d0, offA_ (hoff 22 (by kernel_rfl)), offA_ (hoff 23 (by kernel_rfl)), offA_ (hoff 30 (by kernel_rfl)), offA_ (hoff 31 (by kernel_rfl)), offA_ (hoff 35 (by kernel_rfl)), offA_ (hoff 36 (by kernel_rfl)), f1, d9, offA_ (hoff 23 (by kernel_rfl)), offA_ (hoff 31 (by kernel_rfl)), offA_ (hoff 36 (by kernel_rfl))⟩
       refine yap ?_ ?_
       ·
        rintro b a w' ⟨f9, g7, g0, g5, g1, g8, g2, g6, g3, g9, m9_, h0, h2, h3, h4, ha, a8, a9, b0, b1, b2, b3, b4, b5, b6, b7, b8, Q_HB, c3, c4, c8, d0, c7, d4, d7, d8, d6, e0, f1, d9, e4, f4, f7⟩ hb_ hon hoff
        refine ⟨_, rfl, fun K hK => ?_⟩; have e61 : a.tmps[61]? = some (.agg #[.int .i64 2, .int .i64 0, .int .i64 0, .int .i64 0, .int .i64 0]) := (by rw [ha]; exact yaj (e := (20, 61, .agg #[.int .i64 2, .int .i64 0, .int .i64 0, .int .i64 0, .int .i64 0])) 20 rfl rfl (hon 20 (by kernel_rfl)) rfl); have e62 : a.tmps[62]? = some (.agg #[.int .i64 3, .int .i64 0, .int .i64 0, .int .i64 0, .int .i64 0]) := (by rw [ha]; exact yaj (e := (21, 62, .agg #[.int .i64 3, .int .i64 0, .int .i64 0, .int .i64 0, .int .i64 0])) 21 rfl rfl (hon 21 (by kernel_rfl)) rfl); have e54 : a.tmps[54]? = some (.bool true) := (by rw [ha]; exact yaj (e := (13, 54, .bool true)) 13 rfl rfl (hon 13 (by kernel_rfl)) rfl); replace ha := yaa ha; have a4 := yaa a8; have a7 := yaa a9; have d1 := yaa b0; have d2 := yaa b1; have a1 := yaa b2; have a3 := yaa b3; have a2 := yaa b4; have a5 := yaa b5; have a6 := yaa b6; have b9 := yaa b7; have c1 := yaa b8; have HB := yaa Q_HB; have c6 := yaa (c3 (hon 8 (by kernel_rfl))); have e2 := yaa (c4 (hon 9 (by kernel_rfl)))
        refine Kd.R_lit_step k27 _ 27 ?hg (N := 63) ?hd (xs := ([(⟨2, 0, 0, 0, 0⟩ : S27), (⟨3, 0, 0, 0, 0⟩ : S27)] : List (S27))) (inner := [.int .i64 2, .int .i64 0, .int .i64 0, .int .i64 0, .int .i64 0, .int .i64 3, .int .i64 0, .int .i64 0, .int .i64 0, .int .i64 0]) (ok := fun _ => True) (okp := fun _ => True) ?hr ?hp (fun _ hk => hk) trivial (Below.refl _ _) (Nat.le_refl _) (by simp) ?_; (case hd => rfl); (case hg => first | rfl | (simp [Region.wanted, yielded, *]; done)); (case hr => first | (go_simp; done) | (go_simp; rfl)); (case hp => exact (Reps.c5 (show Kd.M k27 _ _ _ (⟨2, 0, 0, 0, 0⟩ : S27) [.int .i64 2, .int .i64 0, .int .i64 0, .int .i64 0, .int .i64 0] from (k27_mkM _ _ _ (⟨2, 0, 0, 0, 0⟩ : S27) )) (Reps.c5 (show Kd.M k27 _ _ _ (⟨3, 0, 0, 0, 0⟩ : S27) [.int .i64 3, .int .i64 0, .int .i64 0, .int .i64 0, .int .i64 0] from (k27_mkM _ _ _ (⟨3, 0, 0, 0, 0⟩ : S27) )) (Reps.none _ _))))
        intro g1 w80 l6 hb hg_ hnew_; clear hg_ hnew_
        (first | rw [← Ny153.out] at l6 | (simp only [Int.reduceToNat] at l6; rw [← Ny153.out] at l6))
        have n0_ := yaa (yaw (upQ a4.out) hb); have n1_ := yaa (yba (upR a7.out) (yat l6) hb); have n2_ := yaa (ybf (upV d1.out) (yat l6) hb); have n3_ := yaa (yak (upR d2.out) hb); have n4_ := yaa (yba (upR c6.out) (yat l6) hb); have n5_ := yaa (ybf (upV e2.out) (yat l6) hb)
        have n6_ := yaa (Kd.R_lower (ybe (ybe (ybe (ybe (Kd.R_new' (Kd.R_new' l6 (ybc (upR a7.out))) (ybc (upR c6.out))) (upB a3.out)) (upB a2.out)) (upB a5.out)) (upB a6.out)) (yaz (by repeat (with_reducible first | exact HB.out | apply yah | apply yaf | apply yag | refine yai ?_ (Aside0.out ‹_›)))))
        have n7_ := yaa (yae (upB a1.out) hb); have n8_ := yaa (yae (upB a3.out) hb); have n9_ := yaa (yae (upB a2.out) hb); have i7 := yaa (yae (upB a5.out) hb); have i8 := yaa (yae (upB a6.out) hb); have j2 := yaa (yae (upB b9.out) hb); have j4 := yaa (yae (upB c1.out) hb)
        have k5 := yaa (yar (by repeat (with_reducible first | exact HB.out | apply yah | apply yaf | apply yag | refine yai ?_ (Aside0.out ‹_›))) hb)
        have t9 := fun (h0_ : b 17 = true) => (show Kd.R k27 27 w80 w.heap.size (fun k_ => some k_ ≠ (.slice k2 y119.length k3 : Value).ownBlock ∧ k_ ≠ f2 ∧ k_ ≠ f0 ∧ k_ ≠ f6 ∧ k_ ≠ f3) g0 y145 from by first | exact (yba (by (with_reducible repeat (first | apply yau | apply yav | apply yay)); exact (c8 h0_)) (yat l6) hb) | exact ybb (yba (by (with_reducible repeat (first | apply yau | apply yav | apply yay)); exact (c8 h0_)) (yat l6) hb) (fun _ h_ => by first | trivial | exact h_ | exact h_.1))
        have u0 := fun (h0_ : b 18 = true) => (show Kd.V k36 36 w80 w.heap.size (fun k_ => some k_ ≠ (.slice k2 y119.length k3 : Value).ownBlock ∧ some k_ ≠ (.slice i9 i6.length j0 : Value).ownBlock ∧ k_ ≠ g4 ∧ k_ ≠ f2 ∧ k_ ≠ f0 ∧ k_ ≠ f6 ∧ k_ ≠ f3 ∧ k_ ≠ i0 ∧ k_ ≠ e1) g5 p8 from by first | exact (ybf (by (with_reducible repeat (first | apply ybg | apply ybh | apply ybj)); exact (d0 h0_)) (yat l6) hb) | exact yan (ybf (by (with_reducible repeat (first | apply ybg | apply ybh | apply ybj)); exact (d0 h0_)) (yat l6) hb) (fun _ h_ => by first | trivial | exact h_ | exact h_.1))
        clear a4; clear a7; clear d1; clear d2; clear c6; clear e2; clear a1; clear a3; clear a2; clear a5; clear a6; clear b9; clear c1; clear HB; have a4 := n0_; have a7 := n1_; have d1 := n2_; have d2 := n3_; have c6 := n4_; have e2 := n5_; have d5 := n6_; have a1 := n7_; have a3 := n8_; have a2 := n9_; have a5 := i7; have a6 := i8; have b9 := j2; have c1 := j4; have HB := k5; clear n0_ n1_ n2_ n3_ n4_ n5_ n6_ n7_ n8_ n9_ i7 i8 j2 j4 k5; clear hb l6
        refine hK.out _ _ ⟨f9, g7, g0, g5, g1, g8, g2, g6, g3, g9, m9_, h0, h2, h3, h4, (by rw [ha.out]; exact yaq 22 hb_ rfl rfl rfl), (upQ a4.out), (by (with_reducible repeat (first | apply yau | apply yav | apply yay)); exact ybb a7.out (fun _ hk => by grind)), (by (with_reducible repeat (first | apply ybg | apply ybh | apply ybj)); exact yan d1.out (fun _ hk => by grind)), (upR d2.out), (upB a1.out), (upB a3.out), (upB a2.out), (upB a5.out), (upB a6.out), (upB b9.out), (upB c1.out), (by repeat (with_reducible first | exact HB.out | apply yah | apply yaf | apply yag | refine yai ?_ (Aside0.out ‹_›))), fun _ => (by (with_reducible repeat (first | apply yau | apply yav | apply yay)); exact ybb c6.out (fun _ hk => by grind)), fun _ => (by (with_reducible repeat (first | apply ybg | apply ybh | apply ybj)); exact yan e2.out (fun _ hk => by grind)), t9, u0, fun _ => (by (with_reducible repeat (first | apply yau | apply yav | apply yay)); exact ybb d5.out (fun _ hk => by grind)), offA_ (hoff 23 (by kernel_rfl)), offA_ (hoff 30 (by kernel_rfl)), offA_ (hoff 31 (by kernel_rfl)), offA_ (hoff 35 (by kernel_rfl)), offA_ (hoff 36 (by kernel_rfl)), f1, d9, offA_ (hoff 23 (by kernel_rfl)), offA_ (hoff 31 (by kernel_rfl)), offA_ (hoff 36 (by kernel_rfl))⟩
       refine yap ?_ ?_
       ·
        rintro b a w' ⟨f9, g7, g0, g5, g1, g8, g2, g6, g3, g9, m9_, h0, h2, h3, h4, ha, a8, a9, b0, b1, b2, b3, b4, b5, b6, b7, b8, Q_HB, c3, c4, c8, d0, c7, d4, d7, d8, d6, e0, f1, d9, e4, f4, f7⟩ hb_ hon hoff
        refine ⟨_, rfl, fun K hK => ?_⟩; have e60 : a.tmps[60]? = some (.agg #[.int .i64 h8, .int .i64 i1, .slice i5 h7.length i3]) := (by rw [ha]; exact yaj (e := (19, 60, .agg #[.int .i64 h8, .int .i64 i1, .slice i5 h7.length i3])) 19 rfl rfl (hon 19 (by kernel_rfl)) rfl); have e63 : a.tmps[63]? = some (g1) := (by rw [ha]; exact yaj (e := (22, 63, g1)) 22 rfl rfl (hon 22 (by kernel_rfl)) rfl); have e54 : a.tmps[54]? = some (.bool true) := (by rw [ha]; exact yaj (e := (13, 54, .bool true)) 13 rfl rfl (hon 13 (by kernel_rfl)) rfl); replace ha := yaa ha; have a4 := yaa a8; have a7 := yaa a9; have d1 := yaa b0; have d2 := yaa b1; have a1 := yaa b2; have a3 := yaa b3; have a2 := yaa b4; have a5 := yaa b5; have a6 := yaa b6; have b9 := yaa b7; have c1 := yaa b8; have HB := yaa Q_HB; have c6 := yaa (c3 (hon 8 (by kernel_rfl))); have e2 := yaa (c4 (hon 9 (by kernel_rfl))); have d3 := yaa (c8 (hon 17 (by kernel_rfl))); have h6 := yaa (d0 (hon 18 (by kernel_rfl))); have d5 := yaa (c7 (hon 22 (by kernel_rfl))); obtain ⟨v6, v7, x9⟩ := Kd.R_slice d5.out
        (first | subst x9 | (injection x9 with f1_ f2_ f3_; have f4_ := f1_.symm; have f5_ := f3_.symm; clear f1_ f2_ f3_; subst f4_; subst f5_))
        refine goes_ Try.func15 (by kernel_rfl) rfl #[.agg #[.int .i64 h8, .int .i64 i1, .slice i5 h7.length i3], .slice v6 y153.length v7] (by first | rfl | (simp [Region.wanted, yielded, *]; done)) rfl rfl (by first | (simp only [List.map_toArray, List.map_cons, List.map_nil, Act.eval, Array.getD_eq_getD_getElem?, Option.getD_some, e60, e63, e54]; done) | (simp only [List.map_toArray, List.map_cons, List.map_nil, Act.eval, Array.getD_eq_getD_getElem?, Option.getD_some, e60, e63, e54]; rfl)) ?_
        with_reducible refine (laws_eaDo.calls k h8 i1 (fun k_ => some k_ = (.slice i5 h7.length i3 : Value).ownBlock) _ _ h7 _ _ y153 s2 s3 s4 _ ?side1 ?side2 ?side3 A14.out).mono ?_
        (case side1 => exact Kd.Q_V (Kd.Q_tight rfl (yab (yab (yab (yab (yab (yab (yab (yac (yac (yac (yac (a4.out) (yad a7.out) (by decide)) (yad c6.out) (by decide)) (yad d3.out) (by decide)) (yad d5.out) (by decide)) a1.out (by decide)) a3.out (by decide)) a2.out (by decide)) a5.out (by decide)) a6.out (by decide)) b9.out (by decide)) c1.out (by decide))))
        (case side2 => repeat (first | exact (ybm d5.out).2.2 | (with_reducible refine ybk ?_ _) | (with_reducible refine ybl ?_ _) | (with_reducible refine ybn ?_)))
        (case side3 => exact (ybm d5.out).2.1)
        rintro e w87 ⟨g8, rfl, ho0, hb⟩; refine ⟨_, rfl, ?_⟩; have n0_ := yaa (yaw (upQ a4.out) hb); have n1_ := yaa (yak (upR a7.out) hb); have n2_ := yaa (yax (upV d1.out) hb); have n3_ := yaa (yak (upR d2.out) hb); have n4_ := yaa (yak (upR c6.out) hb); have n5_ := yaa (yax (upV e2.out) hb); have n6_ := yaa (yak (upR d3.out) hb); have n7_ := yaa (yax (upV h6.out) hb); have n8_ := yaa (yak (upR d5.out) hb)
        have n9_ := yaa (Kd.V_lower (yan (ok' := fun k_ => some k_ ≠ (.slice k2 y119.length k3 : Value).ownBlock ∧ some k_ ≠ (.slice i9 i6.length j0 : Value).ownBlock ∧ some k_ ≠ (f9 : Value).ownBlock ∧ some k_ ≠ (g0 : Value).ownBlock ∧ some k_ ≠ (.slice v6 y153.length v7 : Value).ownBlock ∧ k_ ≠ g4 ∧ k_ ≠ f2 ∧ k_ ≠ f0 ∧ k_ ≠ f6 ∧ k_ ≠ f3 ∧ k_ ≠ i0 ∧ k_ ≠ e1) ho0 (fun k_ hk_ => ⟨Or.elim hk_ (fun hs_ => ((yab (yab (yab (yab (yab (yab (yab (yac (yac (yac (yac (a4.out) (yad a7.out) (by decide)) (yad c6.out) (by decide)) (yad d3.out) (by decide)) (yad d5.out) (by decide)) a1.out (by decide)) a3.out (by decide)) a2.out (by decide)) a5.out (by decide)) a6.out (by decide)) b9.out (by decide)) c1.out (by decide)).1 k_ hs_.symm).1.1.1.1.1.1.1.1.1.1.2) (fun hn_ => (ybd (ybc (upR a7.out)) k_ hn_)), Or.elim hk_ (fun hs_ => ((yab (yab (yab (yab (yab (yab (yab (yac (yac (yac (yac (a4.out) (yad a7.out) (by decide)) (yad c6.out) (by decide)) (yad d3.out) (by decide)) (yad d5.out) (by decide)) a1.out (by decide)) a3.out (by decide)) a2.out (by decide)) a5.out (by decide)) a6.out (by decide)) b9.out (by decide)) c1.out (by decide)).1 k_ hs_.symm).1.1.1.1.1.1.1.1.1.1.1) (fun hn_ => (ybd (ybc (upR d2.out)) k_ hn_)), Or.elim hk_ (fun hs_ => ((yab (yab (yab (yab (yab (yab (yab (yac (yac (yac (yac (a4.out) (yad a7.out) (by decide)) (yad c6.out) (by decide)) (yad d3.out) (by decide)) (yad d5.out) (by decide)) a1.out (by decide)) a3.out (by decide)) a2.out (by decide)) a5.out (by decide)) a6.out (by decide)) b9.out (by decide)) c1.out (by decide)).1 k_ hs_.symm).1.1.1.1.1.1.1.1.1.2) (fun hn_ => (ybd (ybc (upR c6.out)) k_ hn_)), Or.elim hk_ (fun hs_ => ((yab (yab (yab (yab (yab (yab (yab (yac (yac (yac (yac (a4.out) (yad a7.out) (by decide)) (yad c6.out) (by decide)) (yad d3.out) (by decide)) (yad d5.out) (by decide)) a1.out (by decide)) a3.out (by decide)) a2.out (by decide)) a5.out (by decide)) a6.out (by decide)) b9.out (by decide)) c1.out (by decide)).1 k_ hs_.symm).1.1.1.1.1.1.1.1.2) (fun hn_ => (ybd (ybc (upR d3.out)) k_ hn_)), Or.elim hk_ (fun hs_ => ((yab (yab (yab (yab (yab (yab (yab (yac (yac (yac (yac (a4.out) (yad a7.out) (by decide)) (yad c6.out) (by decide)) (yad d3.out) (by decide)) (yad d5.out) (by decide)) a1.out (by decide)) a3.out (by decide)) a2.out (by decide)) a5.out (by decide)) a6.out (by decide)) b9.out (by decide)) c1.out (by decide)).1 k_ hs_.symm).1.1.1.1.1.1.1.2) (fun hn_ => (ybd (ybc (upR d5.out)) k_ hn_)), Or.elim hk_ (fun hs_ => ((yab (yab (yab (yab (yab (yab (yab (yac (yac (yac (yac (a4.out) (yad a7.out) (by decide)) (yad c6.out) (by decide)) (yad d3.out) (by decide)) (yad d5.out) (by decide)) a1.out (by decide)) a3.out (by decide)) a2.out (by decide)) a5.out (by decide)) a6.out (by decide)) b9.out (by decide)) c1.out (by decide)).1 k_ hs_.symm).1.1.1.1.1.1.2) (fun hn_ => (yas (upB a1.out) k_ hn_)), Or.elim hk_ (fun hs_ => ((yab (yab (yab (yab (yab (yab (yab (yac (yac (yac (yac (a4.out) (yad a7.out) (by decide)) (yad c6.out) (by decide)) (yad d3.out) (by decide)) (yad d5.out) (by decide)) a1.out (by decide)) a3.out (by decide)) a2.out (by decide)) a5.out (by decide)) a6.out (by decide)) b9.out (by decide)) c1.out (by decide)).1 k_ hs_.symm).1.1.1.1.1.2) (fun hn_ => (yas (upB a3.out) k_ hn_)), Or.elim hk_ (fun hs_ => ((yab (yab (yab (yab (yab (yab (yab (yac (yac (yac (yac (a4.out) (yad a7.out) (by decide)) (yad c6.out) (by decide)) (yad d3.out) (by decide)) (yad d5.out) (by decide)) a1.out (by decide)) a3.out (by decide)) a2.out (by decide)) a5.out (by decide)) a6.out (by decide)) b9.out (by decide)) c1.out (by decide)).1 k_ hs_.symm).1.1.1.1.2) (fun hn_ => (yas (upB a2.out) k_ hn_)), Or.elim hk_ (fun hs_ => ((yab (yab (yab (yab (yab (yab (yab (yac (yac (yac (yac (a4.out) (yad a7.out) (by decide)) (yad c6.out) (by decide)) (yad d3.out) (by decide)) (yad d5.out) (by decide)) a1.out (by decide)) a3.out (by decide)) a2.out (by decide)) a5.out (by decide)) a6.out (by decide)) b9.out (by decide)) c1.out (by decide)).1 k_ hs_.symm).1.1.1.2) (fun hn_ => (yas (upB a5.out) k_ hn_)), Or.elim hk_ (fun hs_ => ((yab (yab (yab (yab (yab (yab (yab (yac (yac (yac (yac (a4.out) (yad a7.out) (by decide)) (yad c6.out) (by decide)) (yad d3.out) (by decide)) (yad d5.out) (by decide)) a1.out (by decide)) a3.out (by decide)) a2.out (by decide)) a5.out (by decide)) a6.out (by decide)) b9.out (by decide)) c1.out (by decide)).1 k_ hs_.symm).1.1.2) (fun hn_ => (yas (upB a6.out) k_ hn_)), Or.elim hk_ (fun hs_ => ((yab (yab (yab (yab (yab (yab (yab (yac (yac (yac (yac (a4.out) (yad a7.out) (by decide)) (yad c6.out) (by decide)) (yad d3.out) (by decide)) (yad d5.out) (by decide)) a1.out (by decide)) a3.out (by decide)) a2.out (by decide)) a5.out (by decide)) a6.out (by decide)) b9.out (by decide)) c1.out (by decide)).1 k_ hs_.symm).1.2) (fun hn_ => (yas (upB b9.out) k_ hn_)), Or.elim hk_ (fun hs_ => ((yab (yab (yab (yab (yab (yab (yab (yac (yac (yac (yac (a4.out) (yad a7.out) (by decide)) (yad c6.out) (by decide)) (yad d3.out) (by decide)) (yad d5.out) (by decide)) a1.out (by decide)) a3.out (by decide)) a2.out (by decide)) a5.out (by decide)) a6.out (by decide)) b9.out (by decide)) c1.out (by decide)).1 k_ hs_.symm).2) (fun hn_ => (yas (upB c1.out) k_ hn_))⟩)) (yaz (by repeat (with_reducible first | exact HB.out | apply yah | apply yaf | apply yag | refine yai ?_ (Aside0.out ‹_›)))))
        have i7 := yaa (yae (upB a1.out) hb); have i8 := yaa (yae (upB a3.out) hb); have j2 := yaa (yae (upB a2.out) hb); have j4 := yaa (yae (upB a5.out) hb); have k5 := yaa (yae (upB a6.out) hb); have l8 := yaa (yae (upB b9.out) hb); have m4 := yaa (yae (upB c1.out) hb)
        have m5 := yaa (yar (by repeat (with_reducible first | exact HB.out | apply yah | apply yaf | apply yag | refine yai ?_ (Aside0.out ‹_›))) hb)
        clear a4; clear a7; clear d1; clear d2; clear c6; clear e2; clear d3; clear h6; clear d5; clear a1; clear a3; clear a2; clear a5; clear a6; clear b9; clear c1; clear HB; have a4 := n0_; have a7 := n1_; have d1 := n2_; have d2 := n3_; have c6 := n4_; have e2 := n5_; have d3 := n6_; have h6 := n7_; have d5 := n8_; have h9 := n9_; have a1 := i7; have a3 := i8; have a2 := j2; have a5 := j4; have a6 := k5; have b9 := l8; have c1 := m4; have HB := m5; clear n0_ n1_ n2_ n3_ n4_ n5_ n6_ n7_ n8_ n9_ i7 i8 j2 j4 k5 l8 m4 m5; (try clear hb); (try clear hb2); (try clear hk); (try clear hi); (try clear ho0)
        refine hK.out _ _ ⟨f9, g7, g0, g5, .slice v6 y153.length v7, g8, g2, g6, g3, g9, m9_, h0, (.agg #[.int .i64 s2, .int .i64 s3, g8]), h3, h4, (by rw [ha.out]; exact yaq 23 hb_ rfl rfl rfl), (upQ a4.out), (upR a7.out), (upV d1.out), (upR d2.out), (upB a1.out), (upB a3.out), (upB a2.out), (upB a5.out), (upB a6.out), (upB b9.out), (upB c1.out), (by repeat (with_reducible first | exact HB.out | apply yah | apply yaf | apply yag | refine yai ?_ (Aside0.out ‹_›))), fun _ => (upR c6.out), fun _ => yan (upV e2.out) (fun _ hk => by first | exact hk | grind), fun _ => (upR d3.out), fun _ => yan (upV h6.out) (fun _ hk => by first | exact hk | grind), fun _ => (upR d5.out), fun _ => yan (upV h9.out) (fun _ hk => by first | exact hk | grind), offA_ (hoff 30 (by kernel_rfl)), offA_ (hoff 31 (by kernel_rfl)), offA_ (hoff 35 (by kernel_rfl)), offA_ (hoff 36 (by kernel_rfl)), f1, d9, fun _ => rfl, offA_ (hoff 31 (by kernel_rfl)), offA_ (hoff 36 (by kernel_rfl))⟩
       refine yap ?_ ?_
       ·
        rintro b a w' ⟨f9, g7, g0, g5, g1, g8, g2, g6, g3, g9, m9_, h0, h2, h3, h4, ha, a8, a9, b0, b1, b2, b3, b4, b5, b6, b7, b8, Q_HB, c3, c4, c8, d0, c7, d4, d7, d8, d6, e0, f1, d9, e4, f4, f7⟩ hb_ hon hoff
        refine ⟨_, rfl, fun K hK => ?_⟩; have e59 : a.tmps[59]? = some (h0) := (by rw [ha]; exact yaj (e := (18, 59, h0)) 18 rfl rfl (hon 18 (by kernel_rfl)) rfl)
        rw [d9 (hon 18 (by kernel_rfl))] at e59
        have e64 : a.tmps[64]? = some (h2) := (by rw [ha]; exact yaj (e := (23, 64, h2)) 23 rfl rfl (hon 23 (by kernel_rfl)) rfl)
        rw [e4 (hon 23 (by kernel_rfl))] at e64
        have e54 : a.tmps[54]? = some (.bool true) := (by rw [ha]; exact yaj (e := (13, 54, .bool true)) 13 rfl rfl (hon 13 (by kernel_rfl)) rfl); replace ha := yaa ha; have a4 := yaa a8; have a7 := yaa a9; have d1 := yaa b0; have d2 := yaa b1; have a1 := yaa b2; have a3 := yaa b3; have a2 := yaa b4; have a5 := yaa b5; have a6 := yaa b6; have b9 := yaa b7; have c1 := yaa b8; have HB := yaa Q_HB; have c6 := yaa (c3 (hon 8 (by kernel_rfl))); have e2 := yaa (c4 (hon 9 (by kernel_rfl))); have d3 := yaa (c8 (hon 17 (by kernel_rfl))); have h6 := yaa (d0 (hon 18 (by kernel_rfl))); have d5 := yaa (c7 (hon 22 (by kernel_rfl))); have h9 := yaa (d4 (hon 23 (by kernel_rfl))); obtain ⟨y1, y2, y3⟩ := Kd.V_slice h6.out
        (first | subst y3 | (injection y3 with f1_ f2_ f3_; have f4_ := f1_.symm; have f5_ := f3_.symm; clear f1_ f2_ f3_; subst f4_; subst f5_))
        obtain ⟨y4, y5, y6⟩ := Kd.V_slice h9.out
        (first | subst y6 | (injection y6 with f1_ f2_ f3_; have f4_ := f1_.symm; have f5_ := f3_.symm; clear f1_ f2_ f3_; subst f4_; subst f5_))
        refine goes_ Try.func13 (by kernel_rfl) rfl #[.agg #[.int .i64 s0, .int .i64 s1, .slice y1 p8.length y2], .agg #[.int .i64 s2, .int .i64 s3, .slice y4 s4.length y5]] (by first | rfl | (simp [Region.wanted, yielded, *]; done)) rfl rfl (by first | (simp only [List.map_toArray, List.map_cons, List.map_nil, Act.eval, Array.getD_eq_getD_getElem?, Option.getD_some, e59, e64, e54]; done) | (simp only [List.map_toArray, List.map_cons, List.map_nil, Act.eval, Array.getD_eq_getD_getElem?, Option.getD_some, e59, e64, e54]; rfl)) ?_
        with_reducible refine (laws_eaRas.calls k s0 s1 _ _ p8 s2 s3 _ _ s4 true _ ?side1 ?side2 ?side3 ?side4 A15.out).mono ?_
        (case side1 => repeat (first | exact (Kd.V_reads' h6.out).2.2 | (with_reducible refine ybk ?_ _) | (with_reducible refine ybl ?_ _) | (with_reducible refine ybn ?_)))
        (case side2 => exact (Kd.V_reads' h6.out).2.1)
        (case side3 => repeat (first | exact (Kd.V_reads' h9.out).2.2 | (with_reducible refine ybk ?_ _) | (with_reducible refine ybl ?_ _) | (with_reducible refine ybn ?_)))
        (case side4 => exact (Kd.V_reads' h9.out).2.1)
        rintro e w90 ⟨rfl, hb⟩; refine ⟨_, rfl, ?_⟩; have n0_ := yaa (yaw (upQ a4.out) hb); have n1_ := yaa (yak (upR a7.out) hb); have n2_ := yaa (yax (upV d1.out) hb); have n3_ := yaa (yak (upR d2.out) hb); have n4_ := yaa (yak (upR c6.out) hb); have n5_ := yaa (yax (upV e2.out) hb); have n6_ := yaa (yak (upR d3.out) hb); have n7_ := yaa (yax (upV h6.out) hb); have n8_ := yaa (yak (upR d5.out) hb); have n9_ := yaa (yax (upV h9.out) hb); have i7 := yaa (yae (upB a1.out) hb); have i8 := yaa (yae (upB a3.out) hb); have j2 := yaa (yae (upB a2.out) hb); have j4 := yaa (yae (upB a5.out) hb); have k5 := yaa (yae (upB a6.out) hb); have l8 := yaa (yae (upB b9.out) hb); have m4 := yaa (yae (upB c1.out) hb)
        have m5 := yaa (yar (by repeat (with_reducible first | exact HB.out | apply yah | apply yaf | apply yag | refine yai ?_ (Aside0.out ‹_›))) hb)
        clear a4; clear a7; clear d1; clear d2; clear c6; clear e2; clear d3; clear h6; clear d5; clear h9; clear a1; clear a3; clear a2; clear a5; clear a6; clear b9; clear c1; clear HB; have a4 := n0_; have a7 := n1_; have d1 := n2_; have d2 := n3_; have c6 := n4_; have e2 := n5_; have d3 := n6_; have h6 := n7_; have d5 := n8_; have h9 := n9_; have a1 := i7; have a3 := i8; have a2 := j2; have a5 := j4; have a6 := k5; have b9 := l8; have c1 := m4; have HB := m5; clear n0_ n1_ n2_ n3_ n4_ n5_ n6_ n7_ n8_ n9_ i7 i8 j2 j4 k5 l8 m4 m5; (try clear hb); (try clear hb2); (try clear hk); (try clear hi)
        refine hK.out _ _ ⟨f9, g7, g0, .slice y1 p8.length y2, g1, .slice y4 s4.length y5, g2, g6, g3, g9, m9_, h0, h2, h3, h4, (by rw [ha.out]; exact yaq 24 hb_ rfl rfl rfl), (upQ a4.out), (upR a7.out), (upV d1.out), (upR d2.out), (upB a1.out), (upB a3.out), (upB a2.out), (upB a5.out), (upB a6.out), (upB b9.out), (upB c1.out), (by repeat (with_reducible first | exact HB.out | apply yah | apply yaf | apply yag | refine yai ?_ (Aside0.out ‹_›))), fun _ => (upR c6.out), fun _ => yan (upV e2.out) (fun _ hk => by first | exact hk | grind), fun _ => (upR d3.out), fun _ => yan (upV h6.out) (fun _ hk => by first | exact hk | grind), fun _ => (upR d5.out), fun _ => yan (upV h9.out) (fun _ hk => by first | exact hk | grind), offA_ (hoff 30 (by kernel_rfl)), offA_ (hoff 31 (by kernel_rfl)), offA_ (hoff 35 (by kernel_rfl)), offA_ (hoff 36 (by kernel_rfl)), f1, d9, e4, offA_ (hoff 31 (by kernel_rfl)), offA_ (hoff 36 (by kernel_rfl))⟩
       refine yap ?_ ?_
       ·
        rintro b a w' ⟨f9, g7, g0, g5, g1, g8, g2, g6, g3, g9, m9_, h0, h2, h3, h4, ha, a8, a9, b0, b1, b2, b3, b4, b5, b6, b7, b8, Q_HB, c3, c4, c8, d0, c7, d4, d7, d8, d6, e0, f1, d9, e4, f4, f7⟩ hb_ hon hoff
        refine ⟨_, rfl, fun K hK => ?_⟩; have e54 : a.tmps[54]? = some (.bool true) := (by rw [ha]; exact yaj (e := (13, 54, .bool true)) 13 rfl rfl (hon 13 (by kernel_rfl)) rfl); have e65 : a.tmps[65]? = some (.bool true) := (by rw [ha]; exact yaj (e := (24, 65, .bool true)) 24 rfl rfl (hon 24 (by kernel_rfl)) rfl); replace ha := yaa ha; have a4 := yaa a8; have a7 := yaa a9; have d1 := yaa b0; have d2 := yaa b1; have a1 := yaa b2; have a3 := yaa b3; have a2 := yaa b4; have a5 := yaa b5; have a6 := yaa b6; have b9 := yaa b7; have c1 := yaa b8; have HB := yaa Q_HB; have c6 := yaa (c3 (hon 8 (by kernel_rfl))); have e2 := yaa (c4 (hon 9 (by kernel_rfl))); have d3 := yaa (c8 (hon 17 (by kernel_rfl))); have h6 := yaa (d0 (hon 18 (by kernel_rfl))); have d5 := yaa (c7 (hon 22 (by kernel_rfl))); have h9 := yaa (d4 (hon 23 (by kernel_rfl)))
        refine value_ (w1 := w') (v := .bool true) (by rfl) rfl ?_ ?_
        ·
         go_simp
         (try simp only [i64_w])
         try rfl
        refine hK.out _ _ ⟨f9, g7, g0, g5, g1, g8, g2, g6, g3, g9, m9_, h0, h2, h3, h4, (by rw [ha.out]; exact yaq 25 hb_ rfl rfl rfl), a8, a9, b0, b1, b2, b3, b4, b5, b6, b7, b8, Q_HB, c3, c4, c8, d0, c7, d4, offA_ (hoff 30 (by kernel_rfl)), offA_ (hoff 31 (by kernel_rfl)), offA_ (hoff 35 (by kernel_rfl)), offA_ (hoff 36 (by kernel_rfl)), f1, d9, e4, offA_ (hoff 31 (by kernel_rfl)), offA_ (hoff 36 (by kernel_rfl))⟩
       refine yap ?_ ?_
       ·
        rintro b a w' ⟨f9, g7, g0, g5, g1, g8, g2, g6, g3, g9, m9_, h0, h2, h3, h4, ha, a8, a9, b0, b1, b2, b3, b4, b5, b6, b7, b8, Q_HB, c3, c4, c8, d0, c7, d4, d7, d8, d6, e0, f1, d9, e4, f4, f7⟩ hb_ hon hoff
        refine ⟨_, rfl, fun K hK => ?_⟩; have e66 : a.tmps[66]? = some (.bool true) := (by rw [ha]; exact yaj (e := (25, 66, .bool true)) 25 rfl rfl (hon 25 (by kernel_rfl)) rfl); replace ha := yaa ha; have a4 := yaa a8; have a7 := yaa a9; have d1 := yaa b0; have d2 := yaa b1; have a1 := yaa b2; have a3 := yaa b3; have a2 := yaa b4; have a5 := yaa b5; have a6 := yaa b6; have b9 := yaa b7; have c1 := yaa b8; have HB := yaa Q_HB; have c6 := yaa (c3 (hon 8 (by kernel_rfl))); have e2 := yaa (c4 (hon 9 (by kernel_rfl))); have d3 := yaa (c8 (hon 17 (by kernel_rfl))); have h6 := yaa (d0 (hon 18 (by kernel_rfl))); have d5 := yaa (c7 (hon 22 (by kernel_rfl))); have h9 := yaa (d4 (hon 23 (by kernel_rfl)))
        refine value_ (w1 := w') (v := .bool true) (by rfl) rfl ?_ ?_
        ·
         go_simp
         (try simp only [i64_w])
         try rfl
        refine hK.out _ _ ⟨f9, g7, g0, g5, g1, g8, g2, g6, g3, g9, m9_, h0, h2, h3, h4, (by rw [ha.out]; exact yaq 26 hb_ rfl rfl rfl), a8, a9, b0, b1, b2, b3, b4, b5, b6, b7, b8, Q_HB, c3, c4, c8, d0, c7, d4, offA_ (hoff 30 (by kernel_rfl)), offA_ (hoff 31 (by kernel_rfl)), offA_ (hoff 35 (by kernel_rfl)), offA_ (hoff 36 (by kernel_rfl)), f1, d9, e4, offA_ (hoff 31 (by kernel_rfl)), offA_ (hoff 36 (by kernel_rfl))⟩
       refine yap ?_ ?_
       ·
        rintro b a w' ⟨f9, g7, g0, g5, g1, g8, g2, g6, g3, g9, m9_, h0, h2, h3, h4, ha, a8, a9, b0, b1, b2, b3, b4, b5, b6, b7, b8, Q_HB, c3, c4, c8, d0, c7, d4, d7, d8, d6, e0, f1, d9, e4, f4, f7⟩ hb_ hon hoff
        refine ⟨_, rfl, fun K hK => ?_⟩; have e3 : a.tmps[3]? = some (.pointer (some ⟨g4, 0, none⟩)) := (by rw [ha]; exact (ybi rfl).trans rfl); have e67 : a.tmps[67]? = some (.bool true) := (by rw [ha]; exact yaj (e := (26, 67, .bool true)) 26 rfl rfl (hon 26 (by kernel_rfl)) rfl); replace ha := yaa ha; have a4 := yaa a8; have a7 := yaa a9; have d1 := yaa b0; have d2 := yaa b1; have a1 := yaa b2; have a3 := yaa b3; have a2 := yaa b4; have a5 := yaa b5; have a6 := yaa b6; have b9 := yaa b7; have c1 := yaa b8; have HB := yaa Q_HB; have c6 := yaa (c3 (hon 8 (by kernel_rfl))); have e2 := yaa (c4 (hon 9 (by kernel_rfl))); have d3 := yaa (c8 (hon 17 (by kernel_rfl))); have h6 := yaa (d0 (hon 18 (by kernel_rfl))); have d5 := yaa (c7 (hon 22 (by kernel_rfl))); have h9 := yaa (d4 (hon 23 (by kernel_rfl))); obtain ⟨hc0_, hc1_, hc2_⟩ := cc3_ a1.out
        refine value_ (w1 := w') (v := .agg #[.int .i64 h8, .int .i64 i1, .slice i5 h7.length i3]) (ybo rfl rfl rfl (e67.trans (by first | rfl | (simp [*]; done)))) rfl ?_ ?_
        ·
         go_simp
         (try simp only [i64_w])
         try rfl
        refine hK.out _ _ ⟨f9, g7, g0, g5, g1, g8, g2, g6, g3, g9, m9_, h0, h2, h3, h4, (by rw [ha.out]; exact yaq 27 hb_ rfl rfl rfl), a8, a9, b0, b1, b2, b3, b4, b5, b6, b7, b8, Q_HB, c3, c4, c8, d0, c7, d4, d7, offA_ (hoff 31 (by kernel_rfl)), d6, offA_ (hoff 36 (by kernel_rfl)), f1, d9, e4, offA_ (hoff 31 (by kernel_rfl)), offA_ (hoff 36 (by kernel_rfl))⟩
       refine yap ?_ ?_
       ·
        rintro b a w' ⟨f9, g7, g0, g5, g1, g8, g2, g6, g3, g9, m9_, h0, h2, h3, h4, ha, a8, a9, b0, b1, b2, b3, b4, b5, b6, b7, b8, Q_HB, c3, c4, c8, d0, c7, d4, d7, d8, d6, e0, f1, d9, e4, f4, f7⟩ hb_ hon hoff
        refine ⟨_, rfl, fun K hK => ?_⟩; have e5 : a.tmps[5]? = some (.pointer (some ⟨f0, 0, none⟩)) := (by rw [ha]; exact (ybi rfl).trans rfl); have e67 : a.tmps[67]? = some (.bool true) := (by rw [ha]; exact yaj (e := (26, 67, .bool true)) 26 rfl rfl (hon 26 (by kernel_rfl)) rfl); replace ha := yaa ha; have a4 := yaa a8; have a7 := yaa a9; have d1 := yaa b0; have d2 := yaa b1; have a1 := yaa b2; have a3 := yaa b3; have a2 := yaa b4; have a5 := yaa b5; have a6 := yaa b6; have b9 := yaa b7; have c1 := yaa b8; have HB := yaa Q_HB; have c6 := yaa (c3 (hon 8 (by kernel_rfl))); have e2 := yaa (c4 (hon 9 (by kernel_rfl))); have d3 := yaa (c8 (hon 17 (by kernel_rfl))); have h6 := yaa (d0 (hon 18 (by kernel_rfl))); have d5 := yaa (c7 (hon 22 (by kernel_rfl))); have h9 := yaa (d4 (hon 23 (by kernel_rfl))); obtain ⟨hc0_, hc1_, hc2_, hc3_, hc4_⟩ := cc5_ a2.out
        refine value_ (w1 := w') (v := .agg #[.int .i64 4, .int .i64 0, .int .i64 0, .int .i64 0, .int .i64 0]) (ybo rfl rfl rfl (e67.trans (by first | rfl | (simp [*]; done)))) rfl ?_ ?_
        ·
         go_simp
         (try simp only [i64_w])
         try rfl
        refine hK.out _ _ ⟨f9, g7, g0, g5, g1, g8, g2, g6, g3, g9, m9_, h0, h2, h3, h4, (by rw [ha.out]; exact yaq 28 hb_ rfl rfl rfl), a8, a9, b0, b1, b2, b3, b4, b5, b6, b7, b8, Q_HB, c3, c4, c8, d0, c7, d4, offA_ (hoff 30 (by kernel_rfl)), offA_ (hoff 31 (by kernel_rfl)), d6, offA_ (hoff 36 (by kernel_rfl)), f1, d9, e4, offA_ (hoff 31 (by kernel_rfl)), offA_ (hoff 36 (by kernel_rfl))⟩
       refine yap ?_ ?_
       ·
        rintro b a w' ⟨f9, g7, g0, g5, g1, g8, g2, g6, g3, g9, m9_, h0, h2, h3, h4, ha, a8, a9, b0, b1, b2, b3, b4, b5, b6, b7, b8, Q_HB, c3, c4, c8, d0, c7, d4, d7, d8, d6, e0, f1, d9, e4, f4, f7⟩ hb_ hon hoff
        refine ⟨_, rfl, fun K hK => ?_⟩; have e6 : a.tmps[6]? = some (.pointer (some ⟨f6, 0, none⟩)) := (by rw [ha]; exact (ybi rfl).trans rfl); have e67 : a.tmps[67]? = some (.bool true) := (by rw [ha]; exact yaj (e := (26, 67, .bool true)) 26 rfl rfl (hon 26 (by kernel_rfl)) rfl); replace ha := yaa ha; have a4 := yaa a8; have a7 := yaa a9; have d1 := yaa b0; have d2 := yaa b1; have a1 := yaa b2; have a3 := yaa b3; have a2 := yaa b4; have a5 := yaa b5; have a6 := yaa b6; have b9 := yaa b7; have c1 := yaa b8; have HB := yaa Q_HB; have c6 := yaa (c3 (hon 8 (by kernel_rfl))); have e2 := yaa (c4 (hon 9 (by kernel_rfl))); have d3 := yaa (c8 (hon 17 (by kernel_rfl))); have h6 := yaa (d0 (hon 18 (by kernel_rfl))); have d5 := yaa (c7 (hon 22 (by kernel_rfl))); have h9 := yaa (d4 (hon 23 (by kernel_rfl))); obtain ⟨hc0_, hc1_, hc2_, hc3_, hc4_⟩ := cc5_ a5.out
        refine value_ (w1 := w') (v := .agg #[.int .i64 2, .int .i64 0, .int .i64 0, .int .i64 0, .int .i64 0]) (ybo rfl rfl rfl (e67.trans (by first | rfl | (simp [*]; done)))) rfl ?_ ?_
        ·
         go_simp
         (try simp only [i64_w])
         try rfl
        refine hK.out _ _ ⟨f9, g7, g0, g5, g1, g8, g2, g6, g3, g9, m9_, h0, h2, h3, h4, (by rw [ha.out]; exact yaq 29 hb_ rfl rfl rfl), a8, a9, b0, b1, b2, b3, b4, b5, b6, b7, b8, Q_HB, c3, c4, c8, d0, c7, d4, offA_ (hoff 30 (by kernel_rfl)), offA_ (hoff 31 (by kernel_rfl)), d6, offA_ (hoff 36 (by kernel_rfl)), f1, d9, e4, offA_ (hoff 31 (by kernel_rfl)), offA_ (hoff 36 (by kernel_rfl))⟩
       refine yap ?_ ?_
       ·
        rintro b a w' ⟨f9, g7, g0, g5, g1, g8, g2, g6, g3, g9, m9_, h0, h2, h3, h4, ha, a8, a9, b0, b1, b2, b3, b4, b5, b6, b7, b8, Q_HB, c3, c4, c8, d0, c7, d4, d7, d8, d6, e0, f1, d9, e4, f4, f7⟩ hb_ hon hoff
        refine ⟨_, rfl, fun K hK => ?_⟩; have e69 : a.tmps[69]? = some (.agg #[.int .i64 4, .int .i64 0, .int .i64 0, .int .i64 0, .int .i64 0]) := (by rw [ha]; exact yaj (e := (28, 69, .agg #[.int .i64 4, .int .i64 0, .int .i64 0, .int .i64 0, .int .i64 0])) 28 rfl rfl (hon 28 (by kernel_rfl)) rfl); have e70 : a.tmps[70]? = some (.agg #[.int .i64 2, .int .i64 0, .int .i64 0, .int .i64 0, .int .i64 0]) := (by rw [ha]; exact yaj (e := (29, 70, .agg #[.int .i64 2, .int .i64 0, .int .i64 0, .int .i64 0, .int .i64 0])) 29 rfl rfl (hon 29 (by kernel_rfl)) rfl); have e67 : a.tmps[67]? = some (.bool true) := (by rw [ha]; exact yaj (e := (26, 67, .bool true)) 26 rfl rfl (hon 26 (by kernel_rfl)) rfl); replace ha := yaa ha; have a4 := yaa a8; have a7 := yaa a9; have d1 := yaa b0; have d2 := yaa b1; have a1 := yaa b2; have a3 := yaa b3; have a2 := yaa b4; have a5 := yaa b5; have a6 := yaa b6; have b9 := yaa b7; have c1 := yaa b8; have HB := yaa Q_HB; have c6 := yaa (c3 (hon 8 (by kernel_rfl))); have e2 := yaa (c4 (hon 9 (by kernel_rfl))); have d3 := yaa (c8 (hon 17 (by kernel_rfl))); have h6 := yaa (d0 (hon 18 (by kernel_rfl))); have d5 := yaa (c7 (hon 22 (by kernel_rfl))); have h9 := yaa (d4 (hon 23 (by kernel_rfl)))
        refine Kd.R_lit_step k27 _ 27 ?hg (N := 71) ?hd (xs := ([(⟨4, 0, 0, 0, 0⟩ : S27), (⟨2, 0, 0, 0, 0⟩ : S27)] : List (S27))) (inner := [.int .i64 4, .int .i64 0, .int .i64 0, .int .i64 0, .int .i64 0, .int .i64 2, .int .i64 0, .int .i64 0, .int .i64 0, .int .i64 0]) (ok := fun _ => True) (okp := fun _ => True) ?hr ?hp (fun _ hk => hk) trivial (Below.refl _ _) (Nat.le_refl _) (by simp) ?_; (case hd => rfl); (case hg => first | rfl | (simp [Region.wanted, yielded, *]; done)); (case hr => first | (go_simp; done) | (go_simp; rfl)); (case hp => exact (Reps.c5 (show Kd.M k27 _ _ _ (⟨4, 0, 0, 0, 0⟩ : S27) [.int .i64 4, .int .i64 0, .int .i64 0, .int .i64 0, .int .i64 0] from (k27_mkM _ _ _ (⟨4, 0, 0, 0, 0⟩ : S27) )) (Reps.c5 (show Kd.M k27 _ _ _ (⟨2, 0, 0, 0, 0⟩ : S27) [.int .i64 2, .int .i64 0, .int .i64 0, .int .i64 0, .int .i64 0] from (k27_mkM _ _ _ (⟨2, 0, 0, 0, 0⟩ : S27) )) (Reps.none _ _))))
        intro g2 w91 k1 hb hg_ hnew_; clear hg_ hnew_
        (first | rw [← Ny162.out] at k1 | (simp only [Int.reduceToNat] at k1; rw [← Ny162.out] at k1))
        have n0_ := yaa (yaw (upQ a4.out) hb); have n1_ := yaa (yba (upR a7.out) (yat k1) hb); have n2_ := yaa (ybf (upV d1.out) (yat k1) hb); have n3_ := yaa (yak (upR d2.out) hb); have n4_ := yaa (yba (upR c6.out) (yat k1) hb); have n5_ := yaa (ybf (upV e2.out) (yat k1) hb); have n6_ := yaa (yba (upR d3.out) (yat k1) hb); have n7_ := yaa (ybf (upV h6.out) (yat k1) hb); have n8_ := yaa (yba (upR d5.out) (yat k1) hb); have n9_ := yaa (ybf (upV h9.out) (yat k1) hb)
        have i7 := yaa (Kd.R_lower (ybe (ybe (ybe (ybe (Kd.R_new' (Kd.R_new' (Kd.R_new' (Kd.R_new' k1 (ybc (upR a7.out))) (ybc (upR c6.out))) (ybc (upR d3.out))) (ybc (upR d5.out))) (upB a3.out)) (upB a2.out)) (upB a5.out)) (upB a6.out)) (yaz (by repeat (with_reducible first | exact HB.out | apply yah | apply yaf | apply yag | refine yai ?_ (Aside0.out ‹_›)))))
        have i8 := yaa (yae (upB a1.out) hb); have j2 := yaa (yae (upB a3.out) hb); have j4 := yaa (yae (upB a2.out) hb); have k5 := yaa (yae (upB a5.out) hb); have l8 := yaa (yae (upB a6.out) hb); have m4 := yaa (yae (upB b9.out) hb); have m5 := yaa (yae (upB c1.out) hb)
        have n0 := yaa (yar (by repeat (with_reducible first | exact HB.out | apply yah | apply yaf | apply yag | refine yai ?_ (Aside0.out ‹_›))) hb)
        have p4 := fun (h0_ : b 35 = true) => (show Kd.R k27 27 w91 w.heap.size (fun k_ => some k_ ≠ (.slice k2 y119.length k3 : Value).ownBlock ∧ k_ ≠ f2 ∧ k_ ≠ f0 ∧ k_ ≠ f6 ∧ k_ ≠ f3) g3 y170 from by first | exact (yba (by (with_reducible repeat (first | apply yau | apply yav | apply yay)); exact (d6 h0_)) (yat k1) hb) | exact ybb (yba (by (with_reducible repeat (first | apply yau | apply yav | apply yay)); exact (d6 h0_)) (yat k1) hb) (fun _ h_ => by first | trivial | exact h_ | exact h_.1))
        clear a4; clear a7; clear d1; clear d2; clear c6; clear e2; clear d3; clear h6; clear d5; clear h9; clear a1; clear a3; clear a2; clear a5; clear a6; clear b9; clear c1; clear HB; have a4 := n0_; have a7 := n1_; have d1 := n2_; have d2 := n3_; have c6 := n4_; have e2 := n5_; have d3 := n6_; have h6 := n7_; have d5 := n8_; have h9 := n9_; have h5 := i7; have a1 := i8; have a3 := j2; have a2 := j4; have a5 := k5; have a6 := l8; have b9 := m4; have c1 := m5; have HB := n0; clear n0_ n1_ n2_ n3_ n4_ n5_ n6_ n7_ n8_ n9_ i7 i8 j2 j4 k5 l8 m4 m5 n0; clear hb k1
        refine hK.out _ _ ⟨f9, g7, g0, g5, g1, g8, g2, g6, g3, g9, m9_, h0, h2, h3, h4, (by rw [ha.out]; exact yaq 30 hb_ rfl rfl rfl), (upQ a4.out), (by (with_reducible repeat (first | apply yau | apply yav | apply yay)); exact ybb a7.out (fun _ hk => by grind)), (by (with_reducible repeat (first | apply ybg | apply ybh | apply ybj)); exact yan d1.out (fun _ hk => by grind)), (upR d2.out), (upB a1.out), (upB a3.out), (upB a2.out), (upB a5.out), (upB a6.out), (upB b9.out), (upB c1.out), (by repeat (with_reducible first | exact HB.out | apply yah | apply yaf | apply yag | refine yai ?_ (Aside0.out ‹_›))), fun _ => (by (with_reducible repeat (first | apply yau | apply yav | apply yay)); exact ybb c6.out (fun _ hk => by grind)), fun _ => (by (with_reducible repeat (first | apply ybg | apply ybh | apply ybj)); exact yan e2.out (fun _ hk => by grind)), fun _ => (by (with_reducible repeat (first | apply yau | apply yav | apply yay)); exact ybb d3.out (fun _ hk => by grind)), fun _ => (by (with_reducible repeat (first | apply ybg | apply ybh | apply ybj)); exact yan h6.out (fun _ hk => by grind)), fun _ => (by (with_reducible repeat (first | apply yau | apply yav | apply yay)); exact ybb d5.out (fun _ hk => by grind)), fun _ => (by (with_reducible repeat (first | apply ybg | apply ybh | apply ybj)); exact yan h9.out (fun _ hk => by grind)), fun _ => (by (with_reducible repeat (first | apply yau | apply yav | apply yay)); exact ybb h5.out (fun _ hk => by grind)), offA_ (hoff 31 (by kernel_rfl)), p4, offA_ (hoff 36 (by kernel_rfl)), f1, d9, e4, offA_ (hoff 31 (by kernel_rfl)), offA_ (hoff 36 (by kernel_rfl))⟩
       refine yap ?_ ?_
       ·
        rintro b a w' ⟨f9, g7, g0, g5, g1, g8, g2, g6, g3, g9, m9_, h0, h2, h3, h4, ha, a8, a9, b0, b1, b2, b3, b4, b5, b6, b7, b8, Q_HB, c3, c4, c8, d0, c7, d4, d7, d8, d6, e0, f1, d9, e4, f4, f7⟩ hb_ hon hoff
        refine ⟨_, rfl, fun K hK => ?_⟩; have e68 : a.tmps[68]? = some (.agg #[.int .i64 h8, .int .i64 i1, .slice i5 h7.length i3]) := (by rw [ha]; exact yaj (e := (27, 68, .agg #[.int .i64 h8, .int .i64 i1, .slice i5 h7.length i3])) 27 rfl rfl (hon 27 (by kernel_rfl)) rfl); have e71 : a.tmps[71]? = some (g2) := (by rw [ha]; exact yaj (e := (30, 71, g2)) 30 rfl rfl (hon 30 (by kernel_rfl)) rfl); have e67 : a.tmps[67]? = some (.bool true) := (by rw [ha]; exact yaj (e := (26, 67, .bool true)) 26 rfl rfl (hon 26 (by kernel_rfl)) rfl); replace ha := yaa ha; have a4 := yaa a8; have a7 := yaa a9; have d1 := yaa b0; have d2 := yaa b1; have a1 := yaa b2; have a3 := yaa b3; have a2 := yaa b4; have a5 := yaa b5; have a6 := yaa b6; have b9 := yaa b7; have c1 := yaa b8; have HB := yaa Q_HB; have c6 := yaa (c3 (hon 8 (by kernel_rfl))); have e2 := yaa (c4 (hon 9 (by kernel_rfl))); have d3 := yaa (c8 (hon 17 (by kernel_rfl))); have h6 := yaa (d0 (hon 18 (by kernel_rfl))); have d5 := yaa (c7 (hon 22 (by kernel_rfl))); have h9 := yaa (d4 (hon 23 (by kernel_rfl))); have h5 := yaa (d7 (hon 30 (by kernel_rfl))); obtain ⟨v8, v9, y7⟩ := Kd.R_slice h5.out
        (first | subst y7 | (injection y7 with f1_ f2_ f3_; have f4_ := f1_.symm; have f5_ := f3_.symm; clear f1_ f2_ f3_; subst f4_; subst f5_))
        refine goes_ Try.func15 (by kernel_rfl) rfl #[.agg #[.int .i64 h8, .int .i64 i1, .slice i5 h7.length i3], .slice v8 y162.length v9] (by first | rfl | (simp [Region.wanted, yielded, *]; done)) rfl rfl (by first | (simp only [List.map_toArray, List.map_cons, List.map_nil, Act.eval, Array.getD_eq_getD_getElem?, Option.getD_some, e68, e71, e67]; done) | (simp only [List.map_toArray, List.map_cons, List.map_nil, Act.eval, Array.getD_eq_getD_getElem?, Option.getD_some, e68, e71, e67]; rfl)) ?_
        with_reducible refine (laws_eaDo.calls k h8 i1 (fun k_ => some k_ = (.slice i5 h7.length i3 : Value).ownBlock) _ _ h7 _ _ y162 s5 s6 p9 _ ?side1 ?side2 ?side3 A17.out).mono ?_
        (case side1 => exact Kd.Q_V (Kd.Q_tight rfl (yab (yab (yab (yab (yab (yab (yab (yac (yac (yac (yac (yac (a4.out) (yad a7.out) (by decide)) (yad c6.out) (by decide)) (yad d3.out) (by decide)) (yad d5.out) (by decide)) (yad h5.out) (by decide)) a1.out (by decide)) a3.out (by decide)) a2.out (by decide)) a5.out (by decide)) a6.out (by decide)) b9.out (by decide)) c1.out (by decide))))
        (case side2 => repeat (first | exact (ybm h5.out).2.2 | (with_reducible refine ybk ?_ _) | (with_reducible refine ybl ?_ _) | (with_reducible refine ybn ?_)))
        (case side3 => exact (ybm h5.out).2.1)
        rintro e w94 ⟨g6, rfl, ho0, hb⟩; refine ⟨_, rfl, ?_⟩; have n0_ := yaa (yaw (upQ a4.out) hb); have n1_ := yaa (yak (upR a7.out) hb); have n2_ := yaa (yax (upV d1.out) hb); have n3_ := yaa (yak (upR d2.out) hb); have n4_ := yaa (yak (upR c6.out) hb); have n5_ := yaa (yax (upV e2.out) hb); have n6_ := yaa (yak (upR d3.out) hb); have n7_ := yaa (yax (upV h6.out) hb); have n8_ := yaa (yak (upR d5.out) hb); have n9_ := yaa (yax (upV h9.out) hb); have i7 := yaa (yak (upR h5.out) hb)
        have i8 := yaa (Kd.V_lower (yan (ok' := fun k_ => some k_ ≠ (.slice k2 y119.length k3 : Value).ownBlock ∧ some k_ ≠ (.slice i9 i6.length j0 : Value).ownBlock ∧ some k_ ≠ (f9 : Value).ownBlock ∧ some k_ ≠ (g0 : Value).ownBlock ∧ some k_ ≠ (g1 : Value).ownBlock ∧ some k_ ≠ (.slice v8 y162.length v9 : Value).ownBlock ∧ k_ ≠ g4 ∧ k_ ≠ f2 ∧ k_ ≠ f0 ∧ k_ ≠ f6 ∧ k_ ≠ f3 ∧ k_ ≠ i0 ∧ k_ ≠ e1) ho0 (fun k_ hk_ => ⟨Or.elim hk_ (fun hs_ => ((yab (yab (yab (yab (yab (yab (yab (yac (yac (yac (yac (yac (a4.out) (yad a7.out) (by decide)) (yad c6.out) (by decide)) (yad d3.out) (by decide)) (yad d5.out) (by decide)) (yad h5.out) (by decide)) a1.out (by decide)) a3.out (by decide)) a2.out (by decide)) a5.out (by decide)) a6.out (by decide)) b9.out (by decide)) c1.out (by decide)).1 k_ hs_.symm).1.1.1.1.1.1.1.1.1.1.1.2) (fun hn_ => (ybd (ybc (upR a7.out)) k_ hn_)), Or.elim hk_ (fun hs_ => ((yab (yab (yab (yab (yab (yab (yab (yac (yac (yac (yac (yac (a4.out) (yad a7.out) (by decide)) (yad c6.out) (by decide)) (yad d3.out) (by decide)) (yad d5.out) (by decide)) (yad h5.out) (by decide)) a1.out (by decide)) a3.out (by decide)) a2.out (by decide)) a5.out (by decide)) a6.out (by decide)) b9.out (by decide)) c1.out (by decide)).1 k_ hs_.symm).1.1.1.1.1.1.1.1.1.1.1.1) (fun hn_ => (ybd (ybc (upR d2.out)) k_ hn_)), Or.elim hk_ (fun hs_ => ((yab (yab (yab (yab (yab (yab (yab (yac (yac (yac (yac (yac (a4.out) (yad a7.out) (by decide)) (yad c6.out) (by decide)) (yad d3.out) (by decide)) (yad d5.out) (by decide)) (yad h5.out) (by decide)) a1.out (by decide)) a3.out (by decide)) a2.out (by decide)) a5.out (by decide)) a6.out (by decide)) b9.out (by decide)) c1.out (by decide)).1 k_ hs_.symm).1.1.1.1.1.1.1.1.1.1.2) (fun hn_ => (ybd (ybc (upR c6.out)) k_ hn_)), Or.elim hk_ (fun hs_ => ((yab (yab (yab (yab (yab (yab (yab (yac (yac (yac (yac (yac (a4.out) (yad a7.out) (by decide)) (yad c6.out) (by decide)) (yad d3.out) (by decide)) (yad d5.out) (by decide)) (yad h5.out) (by decide)) a1.out (by decide)) a3.out (by decide)) a2.out (by decide)) a5.out (by decide)) a6.out (by decide)) b9.out (by decide)) c1.out (by decide)).1 k_ hs_.symm).1.1.1.1.1.1.1.1.1.2) (fun hn_ => (ybd (ybc (upR d3.out)) k_ hn_)), Or.elim hk_ (fun hs_ => ((yab (yab (yab (yab (yab (yab (yab (yac (yac (yac (yac (yac (a4.out) (yad a7.out) (by decide)) (yad c6.out) (by decide)) (yad d3.out) (by decide)) (yad d5.out) (by decide)) (yad h5.out) (by decide)) a1.out (by decide)) a3.out (by decide)) a2.out (by decide)) a5.out (by decide)) a6.out (by decide)) b9.out (by decide)) c1.out (by decide)).1 k_ hs_.symm).1.1.1.1.1.1.1.1.2) (fun hn_ => (ybd (ybc (upR d5.out)) k_ hn_)), Or.elim hk_ (fun hs_ => ((yab (yab (yab (yab (yab (yab (yab (yac (yac (yac (yac (yac (a4.out) (yad a7.out) (by decide)) (yad c6.out) (by decide)) (yad d3.out) (by decide)) (yad d5.out) (by decide)) (yad h5.out) (by decide)) a1.out (by decide)) a3.out (by decide)) a2.out (by decide)) a5.out (by decide)) a6.out (by decide)) b9.out (by decide)) c1.out (by decide)).1 k_ hs_.symm).1.1.1.1.1.1.1.2) (fun hn_ => (ybd (ybc (upR h5.out)) k_ hn_)), Or.elim hk_ (fun hs_ => ((yab (yab (yab (yab (yab (yab (yab (yac (yac (yac (yac (yac (a4.out) (yad a7.out) (by decide)) (yad c6.out) (by decide)) (yad d3.out) (by decide)) (yad d5.out) (by decide)) (yad h5.out) (by decide)) a1.out (by decide)) a3.out (by decide)) a2.out (by decide)) a5.out (by decide)) a6.out (by decide)) b9.out (by decide)) c1.out (by decide)).1 k_ hs_.symm).1.1.1.1.1.1.2) (fun hn_ => (yas (upB a1.out) k_ hn_)), Or.elim hk_ (fun hs_ => ((yab (yab (yab (yab (yab (yab (yab (yac (yac (yac (yac (yac (a4.out) (yad a7.out) (by decide)) (yad c6.out) (by decide)) (yad d3.out) (by decide)) (yad d5.out) (by decide)) (yad h5.out) (by decide)) a1.out (by decide)) a3.out (by decide)) a2.out (by decide)) a5.out (by decide)) a6.out (by decide)) b9.out (by decide)) c1.out (by decide)).1 k_ hs_.symm).1.1.1.1.1.2) (fun hn_ => (yas (upB a3.out) k_ hn_)), Or.elim hk_ (fun hs_ => ((yab (yab (yab (yab (yab (yab (yab (yac (yac (yac (yac (yac (a4.out) (yad a7.out) (by decide)) (yad c6.out) (by decide)) (yad d3.out) (by decide)) (yad d5.out) (by decide)) (yad h5.out) (by decide)) a1.out (by decide)) a3.out (by decide)) a2.out (by decide)) a5.out (by decide)) a6.out (by decide)) b9.out (by decide)) c1.out (by decide)).1 k_ hs_.symm).1.1.1.1.2) (fun hn_ => (yas (upB a2.out) k_ hn_)), Or.elim hk_ (fun hs_ => ((yab (yab (yab (yab (yab (yab (yab (yac (yac (yac (yac (yac (a4.out) (yad a7.out) (by decide)) (yad c6.out) (by decide)) (yad d3.out) (by decide)) (yad d5.out) (by decide)) (yad h5.out) (by decide)) a1.out (by decide)) a3.out (by decide)) a2.out (by decide)) a5.out (by decide)) a6.out (by decide)) b9.out (by decide)) c1.out (by decide)).1 k_ hs_.symm).1.1.1.2) (fun hn_ => (yas (upB a5.out) k_ hn_)), Or.elim hk_ (fun hs_ => ((yab (yab (yab (yab (yab (yab (yab (yac (yac (yac (yac (yac (a4.out) (yad a7.out) (by decide)) (yad c6.out) (by decide)) (yad d3.out) (by decide)) (yad d5.out) (by decide)) (yad h5.out) (by decide)) a1.out (by decide)) a3.out (by decide)) a2.out (by decide)) a5.out (by decide)) a6.out (by decide)) b9.out (by decide)) c1.out (by decide)).1 k_ hs_.symm).1.1.2) (fun hn_ => (yas (upB a6.out) k_ hn_)), Or.elim hk_ (fun hs_ => ((yab (yab (yab (yab (yab (yab (yab (yac (yac (yac (yac (yac (a4.out) (yad a7.out) (by decide)) (yad c6.out) (by decide)) (yad d3.out) (by decide)) (yad d5.out) (by decide)) (yad h5.out) (by decide)) a1.out (by decide)) a3.out (by decide)) a2.out (by decide)) a5.out (by decide)) a6.out (by decide)) b9.out (by decide)) c1.out (by decide)).1 k_ hs_.symm).1.2) (fun hn_ => (yas (upB b9.out) k_ hn_)), Or.elim hk_ (fun hs_ => ((yab (yab (yab (yab (yab (yab (yab (yac (yac (yac (yac (yac (a4.out) (yad a7.out) (by decide)) (yad c6.out) (by decide)) (yad d3.out) (by decide)) (yad d5.out) (by decide)) (yad h5.out) (by decide)) a1.out (by decide)) a3.out (by decide)) a2.out (by decide)) a5.out (by decide)) a6.out (by decide)) b9.out (by decide)) c1.out (by decide)).1 k_ hs_.symm).2) (fun hn_ => (yas (upB c1.out) k_ hn_))⟩)) (yaz (by repeat (with_reducible first | exact HB.out | apply yah | apply yaf | apply yag | refine yai ?_ (Aside0.out ‹_›)))))
        have j2 := yaa (yae (upB a1.out) hb); have j4 := yaa (yae (upB a3.out) hb); have k5 := yaa (yae (upB a2.out) hb); have l8 := yaa (yae (upB a5.out) hb); have m4 := yaa (yae (upB a6.out) hb); have m5 := yaa (yae (upB b9.out) hb); have n0 := yaa (yae (upB c1.out) hb)
        have p5 := yaa (yar (by repeat (with_reducible first | exact HB.out | apply yah | apply yaf | apply yag | refine yai ?_ (Aside0.out ‹_›))) hb)
        have p4 := fun (h0_ : b 35 = true) => (show Kd.R k27 27 w94 w.heap.size (fun k_ => some k_ ≠ (.slice k2 y119.length k3 : Value).ownBlock ∧ k_ ≠ f2 ∧ k_ ≠ f0 ∧ k_ ≠ f6 ∧ k_ ≠ f3) g3 y170 from by first | exact (yak (by (with_reducible repeat (first | apply yau | apply yav | apply yay)); exact (d6 h0_)) hb) | exact ybb (yak (by (with_reducible repeat (first | apply yau | apply yav | apply yay)); exact (d6 h0_)) hb) (fun _ h_ => by first | trivial | exact h_ | exact h_.1))
        clear a4; clear a7; clear d1; clear d2; clear c6; clear e2; clear d3; clear h6; clear d5; clear h9; clear h5; clear a1; clear a3; clear a2; clear a5; clear a6; clear b9; clear c1; clear HB; have a4 := n0_; have a7 := n1_; have d1 := n2_; have d2 := n3_; have c6 := n4_; have e2 := n5_; have d3 := n6_; have h6 := n7_; have d5 := n8_; have h9 := n9_; have h5 := i7; have l3 := i8; have a1 := j2; have a3 := j4; have a2 := k5; have a5 := l8; have a6 := m4; have b9 := m5; have c1 := n0; have HB := p5; clear n0_ n1_ n2_ n3_ n4_ n5_ n6_ n7_ n8_ n9_ i7 i8 j2 j4 k5 l8 m4 m5 n0 p5; (try clear hb); (try clear hb2); (try clear hk); (try clear hi); (try clear ho0)
        refine hK.out _ _ ⟨f9, g7, g0, g5, g1, g8, .slice v8 y162.length v9, g6, g3, g9, m9_, h0, h2, (.agg #[.int .i64 s5, .int .i64 s6, g6]), h4, (by rw [ha.out]; exact yaq 31 hb_ rfl rfl rfl), (upQ a4.out), (upR a7.out), (upV d1.out), (upR d2.out), (upB a1.out), (upB a3.out), (upB a2.out), (upB a5.out), (upB a6.out), (upB b9.out), (upB c1.out), (by repeat (with_reducible first | exact HB.out | apply yah | apply yaf | apply yag | refine yai ?_ (Aside0.out ‹_›))), fun _ => (upR c6.out), fun _ => yan (upV e2.out) (fun _ hk => by first | exact hk | grind), fun _ => (upR d3.out), fun _ => yan (upV h6.out) (fun _ hk => by first | exact hk | grind), fun _ => (upR d5.out), fun _ => yan (upV h9.out) (fun _ hk => by first | exact hk | grind), fun _ => (upR h5.out), fun _ => yan (upV l3.out) (fun _ hk => by first | exact hk | grind), p4, offA_ (hoff 36 (by kernel_rfl)), f1, d9, e4, fun _ => rfl, offA_ (hoff 36 (by kernel_rfl))⟩
       refine yap ?_ ?_
       ·
        rintro b a w' ⟨f9, g7, g0, g5, g1, g8, g2, g6, g3, g9, m9_, h0, h2, h3, h4, ha, a8, a9, b0, b1, b2, b3, b4, b5, b6, b7, b8, Q_HB, c3, c4, c8, d0, c7, d4, d7, d8, d6, e0, f1, d9, e4, f4, f7⟩ hb_ hon hoff
        refine ⟨_, rfl, fun K hK => ?_⟩; have e3 : a.tmps[3]? = some (.pointer (some ⟨g4, 0, none⟩)) := (by rw [ha]; exact (ybi rfl).trans rfl); have e67 : a.tmps[67]? = some (.bool true) := (by rw [ha]; exact yaj (e := (26, 67, .bool true)) 26 rfl rfl (hon 26 (by kernel_rfl)) rfl); replace ha := yaa ha; have a4 := yaa a8; have a7 := yaa a9; have d1 := yaa b0; have d2 := yaa b1; have a1 := yaa b2; have a3 := yaa b3; have a2 := yaa b4; have a5 := yaa b5; have a6 := yaa b6; have b9 := yaa b7; have c1 := yaa b8; have HB := yaa Q_HB; have c6 := yaa (c3 (hon 8 (by kernel_rfl))); have e2 := yaa (c4 (hon 9 (by kernel_rfl))); have d3 := yaa (c8 (hon 17 (by kernel_rfl))); have h6 := yaa (d0 (hon 18 (by kernel_rfl))); have d5 := yaa (c7 (hon 22 (by kernel_rfl))); have h9 := yaa (d4 (hon 23 (by kernel_rfl))); obtain ⟨hc0_, hc1_, hc2_⟩ := cc3_ a1.out
        refine value_ (w1 := w') (v := .agg #[.int .i64 h8, .int .i64 i1, .slice i5 h7.length i3]) (ybo rfl rfl rfl (e67.trans (by first | rfl | (simp [*]; done)))) rfl ?_ ?_
        ·
         go_simp
         (try simp only [i64_w])
         try rfl
        refine hK.out _ _ ⟨f9, g7, g0, g5, g1, g8, g2, g6, g3, g9, m9_, h0, h2, h3, h4, (by rw [ha.out]; exact yaq 32 hb_ rfl rfl rfl), a8, a9, b0, b1, b2, b3, b4, b5, b6, b7, b8, Q_HB, c3, c4, c8, d0, c7, d4, d7, d8, d6, offA_ (hoff 36 (by kernel_rfl)), f1, d9, e4, f4, offA_ (hoff 36 (by kernel_rfl))⟩
       refine yap ?_ ?_
       ·
        rintro b a w' ⟨f9, g7, g0, g5, g1, g8, g2, g6, g3, g9, m9_, h0, h2, h3, h4, ha, a8, a9, b0, b1, b2, b3, b4, b5, b6, b7, b8, Q_HB, c3, c4, c8, d0, c7, d4, d7, d8, d6, e0, f1, d9, e4, f4, f7⟩ hb_ hon hoff
        refine ⟨_, rfl, fun K hK => ?_⟩; have e7 : a.tmps[7]? = some (.pointer (some ⟨f3, 0, none⟩)) := (by rw [ha]; exact (ybi rfl).trans rfl); have e67 : a.tmps[67]? = some (.bool true) := (by rw [ha]; exact yaj (e := (26, 67, .bool true)) 26 rfl rfl (hon 26 (by kernel_rfl)) rfl); replace ha := yaa ha; have a4 := yaa a8; have a7 := yaa a9; have d1 := yaa b0; have d2 := yaa b1; have a1 := yaa b2; have a3 := yaa b3; have a2 := yaa b4; have a5 := yaa b5; have a6 := yaa b6; have b9 := yaa b7; have c1 := yaa b8; have HB := yaa Q_HB; have c6 := yaa (c3 (hon 8 (by kernel_rfl))); have e2 := yaa (c4 (hon 9 (by kernel_rfl))); have d3 := yaa (c8 (hon 17 (by kernel_rfl))); have h6 := yaa (d0 (hon 18 (by kernel_rfl))); have d5 := yaa (c7 (hon 22 (by kernel_rfl))); have h9 := yaa (d4 (hon 23 (by kernel_rfl))); obtain ⟨hc0_, hc1_, hc2_, hc3_, hc4_⟩ := cc5_ a6.out
        refine value_ (w1 := w') (v := .agg #[.int .i64 3, .int .i64 0, .int .i64 0, .int .i64 0, .int .i64 0]) (ybo rfl rfl rfl (e67.trans (by first | rfl | (simp [*]; done)))) rfl ?_ ?_
        ·
         go_simp
         (try simp only [i64_w])
         try rfl
        refine hK.out _ _ ⟨f9, g7, g0, g5, g1, g8, g2, g6, g3, g9, m9_, h0, h2, h3, h4, (by rw [ha.out]; exact yaq 33 hb_ rfl rfl rfl), a8, a9, b0, b1, b2, b3, b4, b5, b6, b7, b8, Q_HB, c3, c4, c8, d0, c7, d4, d7, d8, offA_ (hoff 35 (by kernel_rfl)), offA_ (hoff 36 (by kernel_rfl)), f1, d9, e4, f4, offA_ (hoff 36 (by kernel_rfl))⟩
       refine yap ?_ ?_
       ·
        rintro b a w' ⟨f9, g7, g0, g5, g1, g8, g2, g6, g3, g9, m9_, h0, h2, h3, h4, ha, a8, a9, b0, b1, b2, b3, b4, b5, b6, b7, b8, Q_HB, c3, c4, c8, d0, c7, d4, d7, d8, d6, e0, f1, d9, e4, f4, f7⟩ hb_ hon hoff
        refine ⟨_, rfl, fun K hK => ?_⟩; have e5 : a.tmps[5]? = some (.pointer (some ⟨f0, 0, none⟩)) := (by rw [ha]; exact (ybi rfl).trans rfl); have e67 : a.tmps[67]? = some (.bool true) := (by rw [ha]; exact yaj (e := (26, 67, .bool true)) 26 rfl rfl (hon 26 (by kernel_rfl)) rfl); replace ha := yaa ha; have a4 := yaa a8; have a7 := yaa a9; have d1 := yaa b0; have d2 := yaa b1; have a1 := yaa b2; have a3 := yaa b3; have a2 := yaa b4; have a5 := yaa b5; have a6 := yaa b6; have b9 := yaa b7; have c1 := yaa b8; have HB := yaa Q_HB; have c6 := yaa (c3 (hon 8 (by kernel_rfl))); have e2 := yaa (c4 (hon 9 (by kernel_rfl))); have d3 := yaa (c8 (hon 17 (by kernel_rfl))); have h6 := yaa (d0 (hon 18 (by kernel_rfl))); have d5 := yaa (c7 (hon 22 (by kernel_rfl))); have h9 := yaa (d4 (hon 23 (by kernel_rfl))); obtain ⟨hc0_, hc1_, hc2_, hc3_, hc4_⟩ := cc5_ a2.out
        refine value_ (w1 := w') (v := .agg #[.int .i64 4, .int .i64 0, .int .i64 0, .int .i64 0, .int .i64 0]) (ybo rfl rfl rfl (e67.trans (by first | rfl | (simp [*]; done)))) rfl ?_ ?_
        ·
         go_simp
         (try simp only [i64_w])
         try rfl
        refine hK.out _ _ ⟨f9, g7, g0, g5, g1, g8, g2, g6, g3, g9, m9_, h0, h2, h3, h4, (by rw [ha.out]; exact yaq 34 hb_ rfl rfl rfl), a8, a9, b0, b1, b2, b3, b4, b5, b6, b7, b8, Q_HB, c3, c4, c8, d0, c7, d4, d7, d8, offA_ (hoff 35 (by kernel_rfl)), offA_ (hoff 36 (by kernel_rfl)), f1, d9, e4, f4, offA_ (hoff 36 (by kernel_rfl))⟩
       refine yap ?_ ?_
       ·
        rintro b a w' ⟨f9, g7, g0, g5, g1, g8, g2, g6, g3, g9, m9_, h0, h2, h3, h4, ha, a8, a9, b0, b1, b2, b3, b4, b5, b6, b7, b8, Q_HB, c3, c4, c8, d0, c7, d4, d7, d8, d6, e0, f1, d9, e4, f4, f7⟩ hb_ hon hoff
        refine ⟨_, rfl, fun K hK => ?_⟩; have e74 : a.tmps[74]? = some (.agg #[.int .i64 3, .int .i64 0, .int .i64 0, .int .i64 0, .int .i64 0]) := (by rw [ha]; exact yaj (e := (33, 74, .agg #[.int .i64 3, .int .i64 0, .int .i64 0, .int .i64 0, .int .i64 0])) 33 rfl rfl (hon 33 (by kernel_rfl)) rfl); have e75 : a.tmps[75]? = some (.agg #[.int .i64 4, .int .i64 0, .int .i64 0, .int .i64 0, .int .i64 0]) := (by rw [ha]; exact yaj (e := (34, 75, .agg #[.int .i64 4, .int .i64 0, .int .i64 0, .int .i64 0, .int .i64 0])) 34 rfl rfl (hon 34 (by kernel_rfl)) rfl); have e67 : a.tmps[67]? = some (.bool true) := (by rw [ha]; exact yaj (e := (26, 67, .bool true)) 26 rfl rfl (hon 26 (by kernel_rfl)) rfl); replace ha := yaa ha; have a4 := yaa a8; have a7 := yaa a9; have d1 := yaa b0; have d2 := yaa b1; have a1 := yaa b2; have a3 := yaa b3; have a2 := yaa b4; have a5 := yaa b5; have a6 := yaa b6; have b9 := yaa b7; have c1 := yaa b8; have HB := yaa Q_HB; have c6 := yaa (c3 (hon 8 (by kernel_rfl))); have e2 := yaa (c4 (hon 9 (by kernel_rfl))); have d3 := yaa (c8 (hon 17 (by kernel_rfl))); have h6 := yaa (d0 (hon 18 (by kernel_rfl))); have d5 := yaa (c7 (hon 22 (by kernel_rfl))); have h9 := yaa (d4 (hon 23 (by kernel_rfl)))
        refine Kd.R_lit_step k27 _ 27 ?hg (N := 76) ?hd (xs := ([(⟨3, 0, 0, 0, 0⟩ : S27), (⟨4, 0, 0, 0, 0⟩ : S27)] : List (S27))) (inner := [.int .i64 3, .int .i64 0, .int .i64 0, .int .i64 0, .int .i64 0, .int .i64 4, .int .i64 0, .int .i64 0, .int .i64 0, .int .i64 0]) (ok := fun _ => True) (okp := fun _ => True) ?hr ?hp (fun _ hk => hk) trivial (Below.refl _ _) (Nat.le_refl _) (by simp) ?_; (case hd => rfl); (case hg => first | rfl | (simp [Region.wanted, yielded, *]; done)); (case hr => first | (go_simp; done) | (go_simp; rfl)); (case hp => exact (Reps.c5 (show Kd.M k27 _ _ _ (⟨3, 0, 0, 0, 0⟩ : S27) [.int .i64 3, .int .i64 0, .int .i64 0, .int .i64 0, .int .i64 0] from (k27_mkM _ _ _ (⟨3, 0, 0, 0, 0⟩ : S27) )) (Reps.c5 (show Kd.M k27 _ _ _ (⟨4, 0, 0, 0, 0⟩ : S27) [.int .i64 4, .int .i64 0, .int .i64 0, .int .i64 0, .int .i64 0] from (k27_mkM _ _ _ (⟨4, 0, 0, 0, 0⟩ : S27) )) (Reps.none _ _))))
        intro g3 w91 k1 hb hg_ hnew_; clear hg_ hnew_
        (first | rw [← Ny170.out] at k1 | (simp only [Int.reduceToNat] at k1; rw [← Ny170.out] at k1))
        have n0_ := yaa (yaw (upQ a4.out) hb); have n1_ := yaa (yba (upR a7.out) (yat k1) hb); have n2_ := yaa (ybf (upV d1.out) (yat k1) hb); have n3_ := yaa (yak (upR d2.out) hb); have n4_ := yaa (yba (upR c6.out) (yat k1) hb); have n5_ := yaa (ybf (upV e2.out) (yat k1) hb); have n6_ := yaa (yba (upR d3.out) (yat k1) hb); have n7_ := yaa (ybf (upV h6.out) (yat k1) hb); have n8_ := yaa (yba (upR d5.out) (yat k1) hb); have n9_ := yaa (ybf (upV h9.out) (yat k1) hb)
        have i7 := yaa (Kd.R_lower (ybe (ybe (ybe (ybe (Kd.R_new' (Kd.R_new' (Kd.R_new' (Kd.R_new' k1 (ybc (upR a7.out))) (ybc (upR c6.out))) (ybc (upR d3.out))) (ybc (upR d5.out))) (upB a3.out)) (upB a2.out)) (upB a5.out)) (upB a6.out)) (yaz (by repeat (with_reducible first | exact HB.out | apply yah | apply yaf | apply yag | refine yai ?_ (Aside0.out ‹_›)))))
        have i8 := yaa (yae (upB a1.out) hb); have j2 := yaa (yae (upB a3.out) hb); have j4 := yaa (yae (upB a2.out) hb); have k5 := yaa (yae (upB a5.out) hb); have l8 := yaa (yae (upB a6.out) hb); have m4 := yaa (yae (upB b9.out) hb); have m5 := yaa (yae (upB c1.out) hb)
        have n0 := yaa (yar (by repeat (with_reducible first | exact HB.out | apply yah | apply yaf | apply yag | refine yai ?_ (Aside0.out ‹_›))) hb)
        have u1 := fun (h0_ : b 30 = true) => (show Kd.R k27 27 w91 w.heap.size (fun k_ => some k_ ≠ (.slice k2 y119.length k3 : Value).ownBlock ∧ k_ ≠ f2 ∧ k_ ≠ f0 ∧ k_ ≠ f6 ∧ k_ ≠ f3) g2 y162 from by first | exact (yba (by (with_reducible repeat (first | apply yau | apply yav | apply yay)); exact (d7 h0_)) (yat k1) hb) | exact ybb (yba (by (with_reducible repeat (first | apply yau | apply yav | apply yay)); exact (d7 h0_)) (yat k1) hb) (fun _ h_ => by first | trivial | exact h_ | exact h_.1))
        have u2 := fun (h0_ : b 31 = true) => (show Kd.V k36 36 w91 w.heap.size (fun k_ => some k_ ≠ (.slice k2 y119.length k3 : Value).ownBlock ∧ some k_ ≠ (.slice i9 i6.length j0 : Value).ownBlock ∧ k_ ≠ g4 ∧ k_ ≠ f2 ∧ k_ ≠ f0 ∧ k_ ≠ f6 ∧ k_ ≠ f3 ∧ k_ ≠ i0 ∧ k_ ≠ e1) g6 p9 from by first | exact (ybf (by (with_reducible repeat (first | apply ybg | apply ybh | apply ybj)); exact (d8 h0_)) (yat k1) hb) | exact yan (ybf (by (with_reducible repeat (first | apply ybg | apply ybh | apply ybj)); exact (d8 h0_)) (yat k1) hb) (fun _ h_ => by first | trivial | exact h_ | exact h_.1))
        clear a4; clear a7; clear d1; clear d2; clear c6; clear e2; clear d3; clear h6; clear d5; clear h9; clear a1; clear a3; clear a2; clear a5; clear a6; clear b9; clear c1; clear HB; have a4 := n0_; have a7 := n1_; have d1 := n2_; have d2 := n3_; have c6 := n4_; have e2 := n5_; have d3 := n6_; have h6 := n7_; have d5 := n8_; have h9 := n9_; have i4 := i7; have a1 := i8; have a3 := j2; have a2 := j4; have a5 := k5; have a6 := l8; have b9 := m4; have c1 := m5; have HB := n0; clear n0_ n1_ n2_ n3_ n4_ n5_ n6_ n7_ n8_ n9_ i7 i8 j2 j4 k5 l8 m4 m5 n0; clear hb k1
        refine hK.out _ _ ⟨f9, g7, g0, g5, g1, g8, g2, g6, g3, g9, m9_, h0, h2, h3, h4, (by rw [ha.out]; exact yaq 35 hb_ rfl rfl rfl), (upQ a4.out), (by (with_reducible repeat (first | apply yau | apply yav | apply yay)); exact ybb a7.out (fun _ hk => by grind)), (by (with_reducible repeat (first | apply ybg | apply ybh | apply ybj)); exact yan d1.out (fun _ hk => by grind)), (upR d2.out), (upB a1.out), (upB a3.out), (upB a2.out), (upB a5.out), (upB a6.out), (upB b9.out), (upB c1.out), (by repeat (with_reducible first | exact HB.out | apply yah | apply yaf | apply yag | refine yai ?_ (Aside0.out ‹_›))), fun _ => (by (with_reducible repeat (first | apply yau | apply yav | apply yay)); exact ybb c6.out (fun _ hk => by grind)), fun _ => (by (with_reducible repeat (first | apply ybg | apply ybh | apply ybj)); exact yan e2.out (fun _ hk => by grind)), fun _ => (by (with_reducible repeat (first | apply yau | apply yav | apply yay)); exact ybb d3.out (fun _ hk => by grind)), fun _ => (by (with_reducible repeat (first | apply ybg | apply ybh | apply ybj)); exact yan h6.out (fun _ hk => by grind)), fun _ => (by (with_reducible repeat (first | apply yau | apply yav | apply yay)); exact ybb d5.out (fun _ hk => by grind)), fun _ => (by (with_reducible repeat (first | apply ybg | apply ybh | apply ybj)); exact yan h9.out (fun _ hk => by grind)), u1, u2, fun _ => (by (with_reducible repeat (first | apply yau | apply yav | apply yay)); exact ybb i4.out (fun _ hk => by grind)), offA_ (hoff 36 (by kernel_rfl)), f1, d9, e4, f4, offA_ (hoff 36 (by kernel_rfl))⟩
       refine yap ?_ ?_
       ·
        rintro b a w' ⟨f9, g7, g0, g5, g1, g8, g2, g6, g3, g9, m9_, h0, h2, h3, h4, ha, a8, a9, b0, b1, b2, b3, b4, b5, b6, b7, b8, Q_HB, c3, c4, c8, d0, c7, d4, d7, d8, d6, e0, f1, d9, e4, f4, f7⟩ hb_ hon hoff
        refine ⟨_, rfl, fun K hK => ?_⟩; have e73 : a.tmps[73]? = some (.agg #[.int .i64 h8, .int .i64 i1, .slice i5 h7.length i3]) := (by rw [ha]; exact yaj (e := (32, 73, .agg #[.int .i64 h8, .int .i64 i1, .slice i5 h7.length i3])) 32 rfl rfl (hon 32 (by kernel_rfl)) rfl); have e76 : a.tmps[76]? = some (g3) := (by rw [ha]; exact yaj (e := (35, 76, g3)) 35 rfl rfl (hon 35 (by kernel_rfl)) rfl); have e67 : a.tmps[67]? = some (.bool true) := (by rw [ha]; exact yaj (e := (26, 67, .bool true)) 26 rfl rfl (hon 26 (by kernel_rfl)) rfl); replace ha := yaa ha; have a4 := yaa a8; have a7 := yaa a9; have d1 := yaa b0; have d2 := yaa b1; have a1 := yaa b2; have a3 := yaa b3; have a2 := yaa b4; have a5 := yaa b5; have a6 := yaa b6; have b9 := yaa b7; have c1 := yaa b8; have HB := yaa Q_HB; have c6 := yaa (c3 (hon 8 (by kernel_rfl))); have e2 := yaa (c4 (hon 9 (by kernel_rfl))); have d3 := yaa (c8 (hon 17 (by kernel_rfl))); have h6 := yaa (d0 (hon 18 (by kernel_rfl))); have d5 := yaa (c7 (hon 22 (by kernel_rfl))); have h9 := yaa (d4 (hon 23 (by kernel_rfl))); have h5 := yaa (d7 (hon 30 (by kernel_rfl))); have l3 := yaa (d8 (hon 31 (by kernel_rfl))); have i4 := yaa (d6 (hon 35 (by kernel_rfl))); obtain ⟨w2, w3, y8⟩ := Kd.R_slice i4.out
        (first | subst y8 | (injection y8 with f1_ f2_ f3_; have f4_ := f1_.symm; have f5_ := f3_.symm; clear f1_ f2_ f3_; subst f4_; subst f5_))
        refine goes_ Try.func15 (by kernel_rfl) rfl #[.agg #[.int .i64 h8, .int .i64 i1, .slice i5 h7.length i3], .slice w2 y170.length w3] (by first | rfl | (simp [Region.wanted, yielded, *]; done)) rfl rfl (by first | (simp only [List.map_toArray, List.map_cons, List.map_nil, Act.eval, Array.getD_eq_getD_getElem?, Option.getD_some, e73, e76, e67]; done) | (simp only [List.map_toArray, List.map_cons, List.map_nil, Act.eval, Array.getD_eq_getD_getElem?, Option.getD_some, e73, e76, e67]; rfl)) ?_
        with_reducible refine (laws_eaDo.calls k h8 i1 (fun k_ => some k_ = (.slice i5 h7.length i3 : Value).ownBlock) _ _ h7 _ _ y170 s7 s8 s9 _ ?side1 ?side2 ?side3 A18.out).mono ?_
        (case side1 => exact Kd.Q_V (Kd.Q_tight rfl (yab (yab (yab (yab (yab (yab (yab (yac (yac (yac (yac (yac (yac (a4.out) (yad a7.out) (by decide)) (yad c6.out) (by decide)) (yad d3.out) (by decide)) (yad d5.out) (by decide)) (yad h5.out) (by decide)) (yad i4.out) (by decide)) a1.out (by decide)) a3.out (by decide)) a2.out (by decide)) a5.out (by decide)) a6.out (by decide)) b9.out (by decide)) c1.out (by decide))))
        (case side2 => repeat (first | exact (ybm i4.out).2.2 | (with_reducible refine ybk ?_ _) | (with_reducible refine ybl ?_ _) | (with_reducible refine ybn ?_)))
        (case side3 => exact (ybm i4.out).2.1)
        rintro e w98 ⟨g9, rfl, ho0, hb⟩; refine ⟨_, rfl, ?_⟩; have n0_ := yaa (yaw (upQ a4.out) hb); have n1_ := yaa (yak (upR a7.out) hb); have n2_ := yaa (yax (upV d1.out) hb); have n3_ := yaa (yak (upR d2.out) hb); have n4_ := yaa (yak (upR c6.out) hb); have n5_ := yaa (yax (upV e2.out) hb); have n6_ := yaa (yak (upR d3.out) hb); have n7_ := yaa (yax (upV h6.out) hb); have n8_ := yaa (yak (upR d5.out) hb); have n9_ := yaa (yax (upV h9.out) hb); have i7 := yaa (yak (upR h5.out) hb); have i8 := yaa (yax (upV l3.out) hb); have j2 := yaa (yak (upR i4.out) hb)
        have j4 := yaa (Kd.V_lower (yan (ok' := fun k_ => some k_ ≠ (.slice k2 y119.length k3 : Value).ownBlock ∧ some k_ ≠ (.slice i9 i6.length j0 : Value).ownBlock ∧ some k_ ≠ (f9 : Value).ownBlock ∧ some k_ ≠ (g0 : Value).ownBlock ∧ some k_ ≠ (g1 : Value).ownBlock ∧ some k_ ≠ (g2 : Value).ownBlock ∧ some k_ ≠ (.slice w2 y170.length w3 : Value).ownBlock ∧ k_ ≠ g4 ∧ k_ ≠ f2 ∧ k_ ≠ f0 ∧ k_ ≠ f6 ∧ k_ ≠ f3 ∧ k_ ≠ i0 ∧ k_ ≠ e1) ho0 (fun k_ hk_ => ⟨Or.elim hk_ (fun hs_ => ((yab (yab (yab (yab (yab (yab (yab (yac (yac (yac (yac (yac (yac (a4.out) (yad a7.out) (by decide)) (yad c6.out) (by decide)) (yad d3.out) (by decide)) (yad d5.out) (by decide)) (yad h5.out) (by decide)) (yad i4.out) (by decide)) a1.out (by decide)) a3.out (by decide)) a2.out (by decide)) a5.out (by decide)) a6.out (by decide)) b9.out (by decide)) c1.out (by decide)).1 k_ hs_.symm).1.1.1.1.1.1.1.1.1.1.1.1.2) (fun hn_ => (ybd (ybc (upR a7.out)) k_ hn_)), Or.elim hk_ (fun hs_ => ((yab (yab (yab (yab (yab (yab (yab (yac (yac (yac (yac (yac (yac (a4.out) (yad a7.out) (by decide)) (yad c6.out) (by decide)) (yad d3.out) (by decide)) (yad d5.out) (by decide)) (yad h5.out) (by decide)) (yad i4.out) (by decide)) a1.out (by decide)) a3.out (by decide)) a2.out (by decide)) a5.out (by decide)) a6.out (by decide)) b9.out (by decide)) c1.out (by decide)).1 k_ hs_.symm).1.1.1.1.1.1.1.1.1.1.1.1.1) (fun hn_ => (ybd (ybc (upR d2.out)) k_ hn_)), Or.elim hk_ (fun hs_ => ((yab (yab (yab (yab (yab (yab (yab (yac (yac (yac (yac (yac (yac (a4.out) (yad a7.out) (by decide)) (yad c6.out) (by decide)) (yad d3.out) (by decide)) (yad d5.out) (by decide)) (yad h5.out) (by decide)) (yad i4.out) (by decide)) a1.out (by decide)) a3.out (by decide)) a2.out (by decide)) a5.out (by decide)) a6.out (by decide)) b9.out (by decide)) c1.out (by decide)).1 k_ hs_.symm).1.1.1.1.1.1.1.1.1.1.1.2) (fun hn_ => (ybd (ybc (upR c6.out)) k_ hn_)), Or.elim hk_ (fun hs_ => ((yab (yab (yab (yab (yab (yab (yab (yac (yac (yac (yac (yac (yac (a4.out) (yad a7.out) (by decide)) (yad c6.out) (by decide)) (yad d3.out) (by decide)) (yad d5.out) (by decide)) (yad h5.out) (by decide)) (yad i4.out) (by decide)) a1.out (by decide)) a3.out (by decide)) a2.out (by decide)) a5.out (by decide)) a6.out (by decide)) b9.out (by decide)) c1.out (by decide)).1 k_ hs_.symm).1.1.1.1.1.1.1.1.1.1.2) (fun hn_ => (ybd (ybc (upR d3.out)) k_ hn_)), Or.elim hk_ (fun hs_ => ((yab (yab (yab (yab (yab (yab (yab (yac (yac (yac (yac (yac (yac (a4.out) (yad a7.out) (by decide)) (yad c6.out) (by decide)) (yad d3.out) (by decide)) (yad d5.out) (by decide)) (yad h5.out) (by decide)) (yad i4.out) (by decide)) a1.out (by decide)) a3.out (by decide)) a2.out (by decide)) a5.out (by decide)) a6.out (by decide)) b9.out (by decide)) c1.out (by decide)).1 k_ hs_.symm).1.1.1.1.1.1.1.1.1.2) (fun hn_ => (ybd (ybc (upR d5.out)) k_ hn_)), Or.elim hk_ (fun hs_ => ((yab (yab (yab (yab (yab (yab (yab (yac (yac (yac (yac (yac (yac (a4.out) (yad a7.out) (by decide)) (yad c6.out) (by decide)) (yad d3.out) (by decide)) (yad d5.out) (by decide)) (yad h5.out) (by decide)) (yad i4.out) (by decide)) a1.out (by decide)) a3.out (by decide)) a2.out (by decide)) a5.out (by decide)) a6.out (by decide)) b9.out (by decide)) c1.out (by decide)).1 k_ hs_.symm).1.1.1.1.1.1.1.1.2) (fun hn_ => (ybd (ybc (upR h5.out)) k_ hn_)), Or.elim hk_ (fun hs_ => ((yab (yab (yab (yab (yab (yab (yab (yac (yac (yac (yac (yac (yac (a4.out) (yad a7.out) (by decide)) (yad c6.out) (by decide)) (yad d3.out) (by decide)) (yad d5.out) (by decide)) (yad h5.out) (by decide)) (yad i4.out) (by decide)) a1.out (by decide)) a3.out (by decide)) a2.out (by decide)) a5.out (by decide)) a6.out (by decide)) b9.out (by decide)) c1.out (by decide)).1 k_ hs_.symm).1.1.1.1.1.1.1.2) (fun hn_ => (ybd (ybc (upR i4.out)) k_ hn_)), Or.elim hk_ (fun hs_ => ((yab (yab (yab (yab (yab (yab (yab (yac (yac (yac (yac (yac (yac (a4.out) (yad a7.out) (by decide)) (yad c6.out) (by decide)) (yad d3.out) (by decide)) (yad d5.out) (by decide)) (yad h5.out) (by decide)) (yad i4.out) (by decide)) a1.out (by decide)) a3.out (by decide)) a2.out (by decide)) a5.out (by decide)) a6.out (by decide)) b9.out (by decide)) c1.out (by decide)).1 k_ hs_.symm).1.1.1.1.1.1.2) (fun hn_ => (yas (upB a1.out) k_ hn_)), Or.elim hk_ (fun hs_ => ((yab (yab (yab (yab (yab (yab (yab (yac (yac (yac (yac (yac (yac (a4.out) (yad a7.out) (by decide)) (yad c6.out) (by decide)) (yad d3.out) (by decide)) (yad d5.out) (by decide)) (yad h5.out) (by decide)) (yad i4.out) (by decide)) a1.out (by decide)) a3.out (by decide)) a2.out (by decide)) a5.out (by decide)) a6.out (by decide)) b9.out (by decide)) c1.out (by decide)).1 k_ hs_.symm).1.1.1.1.1.2) (fun hn_ => (yas (upB a3.out) k_ hn_)), Or.elim hk_ (fun hs_ => ((yab (yab (yab (yab (yab (yab (yab (yac (yac (yac (yac (yac (yac (a4.out) (yad a7.out) (by decide)) (yad c6.out) (by decide)) (yad d3.out) (by decide)) (yad d5.out) (by decide)) (yad h5.out) (by decide)) (yad i4.out) (by decide)) a1.out (by decide)) a3.out (by decide)) a2.out (by decide)) a5.out (by decide)) a6.out (by decide)) b9.out (by decide)) c1.out (by decide)).1 k_ hs_.symm).1.1.1.1.2) (fun hn_ => (yas (upB a2.out) k_ hn_)), Or.elim hk_ (fun hs_ => ((yab (yab (yab (yab (yab (yab (yab (yac (yac (yac (yac (yac (yac (a4.out) (yad a7.out) (by decide)) (yad c6.out) (by decide)) (yad d3.out) (by decide)) (yad d5.out) (by decide)) (yad h5.out) (by decide)) (yad i4.out) (by decide)) a1.out (by decide)) a3.out (by decide)) a2.out (by decide)) a5.out (by decide)) a6.out (by decide)) b9.out (by decide)) c1.out (by decide)).1 k_ hs_.symm).1.1.1.2) (fun hn_ => (yas (upB a5.out) k_ hn_)), Or.elim hk_ (fun hs_ => ((yab (yab (yab (yab (yab (yab (yab (yac (yac (yac (yac (yac (yac (a4.out) (yad a7.out) (by decide)) (yad c6.out) (by decide)) (yad d3.out) (by decide)) (yad d5.out) (by decide)) (yad h5.out) (by decide)) (yad i4.out) (by decide)) a1.out (by decide)) a3.out (by decide)) a2.out (by decide)) a5.out (by decide)) a6.out (by decide)) b9.out (by decide)) c1.out (by decide)).1 k_ hs_.symm).1.1.2) (fun hn_ => (yas (upB a6.out) k_ hn_)), Or.elim hk_ (fun hs_ => ((yab (yab (yab (yab (yab (yab (yab (yac (yac (yac (yac (yac (yac (a4.out) (yad a7.out) (by decide)) (yad c6.out) (by decide)) (yad d3.out) (by decide)) (yad d5.out) (by decide)) (yad h5.out) (by decide)) (yad i4.out) (by decide)) a1.out (by decide)) a3.out (by decide)) a2.out (by decide)) a5.out (by decide)) a6.out (by decide)) b9.out (by decide)) c1.out (by decide)).1 k_ hs_.symm).1.2) (fun hn_ => (yas (upB b9.out) k_ hn_)), Or.elim hk_ (fun hs_ => ((yab (yab (yab (yab (yab (yab (yab (yac (yac (yac (yac (yac (yac (a4.out) (yad a7.out) (by decide)) (yad c6.out) (by decide)) (yad d3.out) (by decide)) (yad d5.out) (by decide)) (yad h5.out) (by decide)) (yad i4.out) (by decide)) a1.out (by decide)) a3.out (by decide)) a2.out (by decide)) a5.out (by decide)) a6.out (by decide)) b9.out (by decide)) c1.out (by decide)).1 k_ hs_.symm).2) (fun hn_ => (yas (upB c1.out) k_ hn_))⟩)) (yaz (by repeat (with_reducible first | exact HB.out | apply yah | apply yaf | apply yag | refine yai ?_ (Aside0.out ‹_›)))))
        have k5 := yaa (yae (upB a1.out) hb); have l8 := yaa (yae (upB a3.out) hb); have m4 := yaa (yae (upB a2.out) hb); have m5 := yaa (yae (upB a5.out) hb); have n0 := yaa (yae (upB a6.out) hb); have p5 := yaa (yae (upB b9.out) hb); have t7 := yaa (yae (upB c1.out) hb)
        have t8 := yaa (yar (by repeat (with_reducible first | exact HB.out | apply yah | apply yaf | apply yag | refine yai ?_ (Aside0.out ‹_›))) hb)
        clear a4; clear a7; clear d1; clear d2; clear c6; clear e2; clear d3; clear h6; clear d5; clear h9; clear h5; clear l3; clear i4; clear a1; clear a3; clear a2; clear a5; clear a6; clear b9; clear c1; clear HB; have a4 := n0_; have a7 := n1_; have d1 := n2_; have d2 := n3_; have c6 := n4_; have e2 := n5_; have d3 := n6_; have h6 := n7_; have d5 := n8_; have h9 := n9_; have h5 := i7; have l3 := i8; have i4 := j2; have m6 := j4; have a1 := k5; have a3 := l8; have a2 := m4; have a5 := m5; have a6 := n0; have b9 := p5; have c1 := t7; have HB := t8; clear n0_ n1_ n2_ n3_ n4_ n5_ n6_ n7_ n8_ n9_ i7 i8 j2 j4 k5 l8 m4 m5 n0 p5 t7 t8; (try clear hb); (try clear hb2); (try clear hk); (try clear hi); (try clear ho0)
        refine hK.out _ _ ⟨f9, g7, g0, g5, g1, g8, g2, g6, .slice w2 y170.length w3, g9, m9_, h0, h2, h3, (.agg #[.int .i64 s7, .int .i64 s8, g9]), (by rw [ha.out]; exact yaq 36 hb_ rfl rfl rfl), (upQ a4.out), (upR a7.out), (upV d1.out), (upR d2.out), (upB a1.out), (upB a3.out), (upB a2.out), (upB a5.out), (upB a6.out), (upB b9.out), (upB c1.out), (by repeat (with_reducible first | exact HB.out | apply yah | apply yaf | apply yag | refine yai ?_ (Aside0.out ‹_›))), fun _ => (upR c6.out), fun _ => yan (upV e2.out) (fun _ hk => by first | exact hk | grind), fun _ => (upR d3.out), fun _ => yan (upV h6.out) (fun _ hk => by first | exact hk | grind), fun _ => (upR d5.out), fun _ => yan (upV h9.out) (fun _ hk => by first | exact hk | grind), fun _ => (upR h5.out), fun _ => yan (upV l3.out) (fun _ hk => by first | exact hk | grind), fun _ => (upR i4.out), fun _ => yan (upV m6.out) (fun _ hk => by first | exact hk | grind), f1, d9, e4, f4, fun _ => rfl⟩
       refine yap ?_ ?_
       ·
        rintro b a w' ⟨f9, g7, g0, g5, g1, g8, g2, g6, g3, g9, m9_, h0, h2, h3, h4, ha, a8, a9, b0, b1, b2, b3, b4, b5, b6, b7, b8, Q_HB, c3, c4, c8, d0, c7, d4, d7, d8, d6, e0, f1, d9, e4, f4, f7⟩ hb_ hon hoff
        refine ⟨_, rfl, fun K hK => ?_⟩; have e72 : a.tmps[72]? = some (h3) := (by rw [ha]; exact yaj (e := (31, 72, h3)) 31 rfl rfl (hon 31 (by kernel_rfl)) rfl)
        rw [f4 (hon 31 (by kernel_rfl))] at e72
        have e77 : a.tmps[77]? = some (h4) := (by rw [ha]; exact yaj (e := (36, 77, h4)) 36 rfl rfl (hon 36 (by kernel_rfl)) rfl)
        rw [f7 (hon 36 (by kernel_rfl))] at e77
        have e67 : a.tmps[67]? = some (.bool true) := (by rw [ha]; exact yaj (e := (26, 67, .bool true)) 26 rfl rfl (hon 26 (by kernel_rfl)) rfl); replace ha := yaa ha; have a4 := yaa a8; have a7 := yaa a9; have d1 := yaa b0; have d2 := yaa b1; have a1 := yaa b2; have a3 := yaa b3; have a2 := yaa b4; have a5 := yaa b5; have a6 := yaa b6; have b9 := yaa b7; have c1 := yaa b8; have HB := yaa Q_HB; have c6 := yaa (c3 (hon 8 (by kernel_rfl))); have e2 := yaa (c4 (hon 9 (by kernel_rfl))); have d3 := yaa (c8 (hon 17 (by kernel_rfl))); have h6 := yaa (d0 (hon 18 (by kernel_rfl))); have d5 := yaa (c7 (hon 22 (by kernel_rfl))); have h9 := yaa (d4 (hon 23 (by kernel_rfl))); have h5 := yaa (d7 (hon 30 (by kernel_rfl))); have l3 := yaa (d8 (hon 31 (by kernel_rfl))); have i4 := yaa (d6 (hon 35 (by kernel_rfl))); have m6 := yaa (e0 (hon 36 (by kernel_rfl))); obtain ⟨y9, z1, z2⟩ := Kd.V_slice l3.out
        (first | subst z2 | (injection z2 with f1_ f2_ f3_; have f4_ := f1_.symm; have f5_ := f3_.symm; clear f1_ f2_ f3_; subst f4_; subst f5_))
        obtain ⟨u4, u5, u6⟩ := Kd.V_slice m6.out
        (first | subst u6 | (injection u6 with f1_ f2_ f3_; have f4_ := f1_.symm; have f5_ := f3_.symm; clear f1_ f2_ f3_; subst f4_; subst f5_))
        refine goes_ Try.func13 (by kernel_rfl) rfl #[.agg #[.int .i64 s5, .int .i64 s6, .slice y9 p9.length z1], .agg #[.int .i64 s7, .int .i64 s8, .slice u4 s9.length u5]] (by first | rfl | (simp [Region.wanted, yielded, *]; done)) rfl rfl (by first | (simp only [List.map_toArray, List.map_cons, List.map_nil, Act.eval, Array.getD_eq_getD_getElem?, Option.getD_some, e72, e77, e67]; done) | (simp only [List.map_toArray, List.map_cons, List.map_nil, Act.eval, Array.getD_eq_getD_getElem?, Option.getD_some, e72, e77, e67]; rfl)) ?_
        with_reducible refine (laws_eaRas.calls k s5 s6 _ _ p9 s7 s8 _ _ s9 p1 _ ?side1 ?side2 ?side3 ?side4 A19.out).mono ?_
        (case side1 => repeat (first | exact (Kd.V_reads' l3.out).2.2 | (with_reducible refine ybk ?_ _) | (with_reducible refine ybl ?_ _) | (with_reducible refine ybn ?_)))
        (case side2 => exact (Kd.V_reads' l3.out).2.1)
        (case side3 => repeat (first | exact (Kd.V_reads' m6.out).2.2 | (with_reducible refine ybk ?_ _) | (with_reducible refine ybl ?_ _) | (with_reducible refine ybn ?_)))
        (case side4 => exact (Kd.V_reads' m6.out).2.1)
        rintro e w101 ⟨rfl, hb⟩; refine ⟨_, rfl, ?_⟩; have n0_ := yaa (yaw (upQ a4.out) hb); have n1_ := yaa (yak (upR a7.out) hb); have n2_ := yaa (yax (upV d1.out) hb); have n3_ := yaa (yak (upR d2.out) hb); have n4_ := yaa (yak (upR c6.out) hb); have n5_ := yaa (yax (upV e2.out) hb); have n6_ := yaa (yak (upR d3.out) hb); have n7_ := yaa (yax (upV h6.out) hb); have n8_ := yaa (yak (upR d5.out) hb); have n9_ := yaa (yax (upV h9.out) hb); have i7 := yaa (yak (upR h5.out) hb); have i8 := yaa (yax (upV l3.out) hb); have j2 := yaa (yak (upR i4.out) hb); have j4 := yaa (yax (upV m6.out) hb); have k5 := yaa (yae (upB a1.out) hb); have l8 := yaa (yae (upB a3.out) hb); have m4 := yaa (yae (upB a2.out) hb); have m5 := yaa (yae (upB a5.out) hb); have n0 := yaa (yae (upB a6.out) hb); have p5 := yaa (yae (upB b9.out) hb); have t7 := yaa (yae (upB c1.out) hb)
        have t8 := yaa (yar (by repeat (with_reducible first | exact HB.out | apply yah | apply yaf | apply yag | refine yai ?_ (Aside0.out ‹_›))) hb)
        clear a4; clear a7; clear d1; clear d2; clear c6; clear e2; clear d3; clear h6; clear d5; clear h9; clear h5; clear l3; clear i4; clear m6; clear a1; clear a3; clear a2; clear a5; clear a6; clear b9; clear c1; clear HB; have a4 := n0_; have a7 := n1_; have d1 := n2_; have d2 := n3_; have c6 := n4_; have e2 := n5_; have d3 := n6_; have h6 := n7_; have d5 := n8_; have h9 := n9_; have h5 := i7; have l3 := i8; have i4 := j2; have m6 := j4; have a1 := k5; have a3 := l8; have a2 := m4; have a5 := m5; have a6 := n0; have b9 := p5; have c1 := t7; have HB := t8; clear n0_ n1_ n2_ n3_ n4_ n5_ n6_ n7_ n8_ n9_ i7 i8 j2 j4 k5 l8 m4 m5 n0 p5 t7 t8; (try clear hb); (try clear hb2); (try clear hk); (try clear hi)
        refine hK.out _ _ ⟨f9, g7, g0, g5, g1, g8, g2, .slice y9 p9.length z1, g3, .slice u4 s9.length u5, m9_, h0, h2, h3, h4, (by rw [ha.out]; exact yaq 37 hb_ rfl rfl rfl), (upQ a4.out), (upR a7.out), (upV d1.out), (upR d2.out), (upB a1.out), (upB a3.out), (upB a2.out), (upB a5.out), (upB a6.out), (upB b9.out), (upB c1.out), (by repeat (with_reducible first | exact HB.out | apply yah | apply yaf | apply yag | refine yai ?_ (Aside0.out ‹_›))), fun _ => (upR c6.out), fun _ => yan (upV e2.out) (fun _ hk => by first | exact hk | grind), fun _ => (upR d3.out), fun _ => yan (upV h6.out) (fun _ hk => by first | exact hk | grind), fun _ => (upR d5.out), fun _ => yan (upV h9.out) (fun _ hk => by first | exact hk | grind), fun _ => (upR h5.out), fun _ => yan (upV l3.out) (fun _ hk => by first | exact hk | grind), fun _ => (upR i4.out), fun _ => yan (upV m6.out) (fun _ hk => by first | exact hk | grind), f1, d9, e4, f4, f7⟩
       refine yap ?_ ?_
       ·
        rintro b a w' ⟨f9, g7, g0, g5, g1, g8, g2, g6, g3, g9, m9_, h0, h2, h3, h4, ha, a8, a9, b0, b1, b2, b3, b4, b5, b6, b7, b8, Q_HB, c3, c4, c8, d0, c7, d4, d7, d8, d6, e0, f1, d9, e4, f4, f7⟩ hb_ hon hoff
        refine ⟨_, rfl, fun K hK => ?_⟩; have e67 : a.tmps[67]? = some (.bool true) := (by rw [ha]; exact yaj (e := (26, 67, .bool true)) 26 rfl rfl (hon 26 (by kernel_rfl)) rfl); have e78 : a.tmps[78]? = some (.bool p1) := (by rw [ha]; exact yaj (e := (37, 78, .bool p1)) 37 rfl rfl (hon 37 (by kernel_rfl)) rfl); replace ha := yaa ha; have a4 := yaa a8; have a7 := yaa a9; have d1 := yaa b0; have d2 := yaa b1; have a1 := yaa b2; have a3 := yaa b3; have a2 := yaa b4; have a5 := yaa b5; have a6 := yaa b6; have b9 := yaa b7; have c1 := yaa b8; have HB := yaa Q_HB; have c6 := yaa (c3 (hon 8 (by kernel_rfl))); have e2 := yaa (c4 (hon 9 (by kernel_rfl))); have d3 := yaa (c8 (hon 17 (by kernel_rfl))); have h6 := yaa (d0 (hon 18 (by kernel_rfl))); have d5 := yaa (c7 (hon 22 (by kernel_rfl))); have h9 := yaa (d4 (hon 23 (by kernel_rfl))); have h5 := yaa (d7 (hon 30 (by kernel_rfl))); have l3 := yaa (d8 (hon 31 (by kernel_rfl))); have i4 := yaa (d6 (hon 35 (by kernel_rfl))); have m6 := yaa (e0 (hon 36 (by kernel_rfl)))
        refine value_ (w1 := w') (v := .bool p1) (by rfl) rfl ?_ ?_
        ·
         go_simp
         (try simp only [i64_w])
         try rfl
        refine hK.out _ _ ⟨f9, g7, g0, g5, g1, g8, g2, g6, g3, g9, m9_, h0, h2, h3, h4, (by rw [ha.out]; exact yaq 38 hb_ rfl rfl rfl), a8, a9, b0, b1, b2, b3, b4, b5, b6, b7, b8, Q_HB, c3, c4, c8, d0, c7, d4, d7, d8, d6, e0, f1, d9, e4, f4, f7⟩
       refine yap ?_ ?_
       ·
        rintro b a w' ⟨f9, g7, g0, g5, g1, g8, g2, g6, g3, g9, m9_, h0, h2, h3, h4, ha, a8, a9, b0, b1, b2, b3, b4, b5, b6, b7, b8, Q_HB, c3, c4, c8, d0, c7, d4, d7, d8, d6, e0, f1, d9, e4, f4, f7⟩ hb_ hon hoff
        refine ⟨_, rfl, fun K hK => ?_⟩; have e79 : a.tmps[79]? = some (.bool p1) := (by rw [ha]; exact yaj (e := (38, 79, .bool p1)) 38 rfl rfl (hon 38 (by kernel_rfl)) rfl); replace ha := yaa ha; have a4 := yaa a8; have a7 := yaa a9; have d1 := yaa b0; have d2 := yaa b1; have a1 := yaa b2; have a3 := yaa b3; have a2 := yaa b4; have a5 := yaa b5; have a6 := yaa b6; have b9 := yaa b7; have c1 := yaa b8; have HB := yaa Q_HB; have c6 := yaa (c3 (hon 8 (by kernel_rfl))); have e2 := yaa (c4 (hon 9 (by kernel_rfl))); have d3 := yaa (c8 (hon 17 (by kernel_rfl))); have h6 := yaa (d0 (hon 18 (by kernel_rfl))); have d5 := yaa (c7 (hon 22 (by kernel_rfl))); have h9 := yaa (d4 (hon 23 (by kernel_rfl))); have h5 := yaa (d7 (hon 30 (by kernel_rfl))); have l3 := yaa (d8 (hon 31 (by kernel_rfl))); have i4 := yaa (d6 (hon 35 (by kernel_rfl))); have m6 := yaa (e0 (hon 36 (by kernel_rfl)))
        refine value_ (w1 := w') (v := .bool p1) (by rfl) rfl ?_ ?_
        ·
         go_simp
         (try simp only [i64_w])
         try rfl
        refine hK.out _ _ ⟨f9, g7, g0, g5, g1, g8, g2, g6, g3, g9, m9_, h0, h2, h3, h4, (by rw [ha.out]; exact yaq 39 hb_ rfl rfl rfl), a8, a9, b0, b1, b2, b3, b4, b5, b6, b7, b8, Q_HB, c3, c4, c8, d0, c7, d4, d7, d8, d6, e0, f1, d9, e4, f4, f7⟩
       exact steps_nil
      rintro b a w101 hall ⟨f9, g7, g0, g5, g1, g8, g2, g6, g3, g9, m9_, h0, h2, h3, h4, ha, a8, a9, b0, b1, b2, b3, b4, b5, b6, b7, b8, Q_HB, c3, c4, c8, d0, c7, d4, d7, d8, d6, e0, f1, d9, e4, f4, f7⟩; clear a1 a3 a2 a5 a6 b9 c1 HB a4 a7 d1 d2; have hb0_ := hall 0 (by kernel_rfl); have hb1_ := hall 1 (by kernel_rfl); have hb2_ := hall 2 (by kernel_rfl); have hb3_ := hall 3 (by kernel_rfl); have hb4_ := hall 4 (by kernel_rfl); have hb5_ := hall 5 (by kernel_rfl); have hb6_ := hall 6 (by kernel_rfl); have hb7_ := hall 7 (by kernel_rfl); have hb8_ := hall 8 (by kernel_rfl); have hb9_ := hall 9 (by kernel_rfl); have hb10_ := hall 10 (by kernel_rfl); have hb11_ := hall 11 (by kernel_rfl); have hb12_ := hall 12 (by kernel_rfl); have hb13_ := hall 13 (by kernel_rfl); have hb14_ := hall 14 (by kernel_rfl); have hb15_ := hall 15 (by kernel_rfl); have hb16_ := hall 16 (by kernel_rfl); have hb17_ := hall 17 (by kernel_rfl); have hb18_ := hall 18 (by kernel_rfl); have hb19_ := hall 19 (by kernel_rfl); have hb20_ := hall 20 (by kernel_rfl); have hb21_ := hall 21 (by kernel_rfl); have hb22_ := hall 22 (by kernel_rfl); have hb23_ := hall 23 (by kernel_rfl); have hb24_ := hall 24 (by kernel_rfl); have hb25_ := hall 25 (by kernel_rfl); have hb26_ := hall 26 (by kernel_rfl); have hb27_ := hall 27 (by kernel_rfl); have hb28_ := hall 28 (by kernel_rfl); have hb29_ := hall 29 (by kernel_rfl); have hb30_ := hall 30 (by kernel_rfl); have hb31_ := hall 31 (by kernel_rfl); have hb32_ := hall 32 (by kernel_rfl); have hb33_ := hall 33 (by kernel_rfl); have hb34_ := hall 34 (by kernel_rfl); have hb35_ := hall 35 (by kernel_rfl); have hb36_ := hall 36 (by kernel_rfl); have hb37_ := hall 37 (by kernel_rfl); have hb38_ := hall 38 (by kernel_rfl); have hb39_ := hall 39 (by kernel_rfl); subst ha; obtain rfl := f1 hb9_; obtain rfl := d9 hb18_; obtain rfl := e4 hb23_; obtain rfl := f4 hb31_; obtain rfl := f7 hb36_
      simp only [putSel, hb0_, hb1_, hb2_, hb3_, hb4_, hb5_, hb6_, hb7_, hb8_, hb9_, hb10_, hb11_, hb12_, hb13_, hb14_, hb15_, hb16_, hb17_, hb18_, hb19_, hb20_, hb21_, hb22_, hb23_, hb24_, hb25_, hb26_, hb27_, hb28_, hb29_, hb30_, hb31_, hb32_, hb33_, hb34_, hb35_, hb36_, hb37_, hb38_, hb39_, if_true, Act.put, List.setIfInBounds_toArray, List.set_cons_zero, List.set_cons_succ]
      have a4 := yaa a8; clear a8; have a7 := yaa a9; clear a9; have d1 := yaa b0; clear b0; have d2 := yaa b1; clear b1; have a1 := yaa b2; clear b2; have a3 := yaa b3; clear b3; have a2 := yaa b4; clear b4; have a5 := yaa b5; clear b5; have a6 := yaa b6; clear b6; have b9 := yaa b7; clear b7; have c1 := yaa b8; clear b8; have HB := yaa Q_HB; clear Q_HB; have c6 := yaa (c3 hb8_); clear c3; have e2 := yaa (c4 hb9_); clear c4; have d3 := yaa (c8 hb17_); clear c8; have h6 := yaa (d0 hb18_); clear d0; have d5 := yaa (c7 hb22_); clear c7; have h9 := yaa (d4 hb23_); clear d4; have h5 := yaa (d7 hb30_); clear d7; have l3 := yaa (d8 hb31_); clear d8; have i4 := yaa (d6 hb35_); clear d6; have m6 := yaa (e0 hb36_); clear e0; clear hall hb0_ hb1_ hb2_ hb3_ hb4_ hb5_ hb6_ hb7_ hb8_ hb9_ hb10_ hb11_ hb12_ hb13_ hb14_ hb15_ hb16_ hb17_ hb18_ hb19_ hb20_ hb21_ hb22_ hb23_ hb24_ hb25_ hb26_ hb27_ hb28_ hb29_ hb30_ hb31_ hb32_ hb33_ hb34_ hb35_ hb36_ hb37_ hb38_ hb39_
      try go_wp2
      go_ret
      exact ⟨by first | rfl | (simp [*, errW_none, errW_some] <;> rfl), by repeat (with_reducible first | exact HB.out | apply yah | apply yaf | apply yag | refine yai ?_ (Aside0.out ‹_›))⟩
     ·
      replace c16 := Bool.eq_false_iff.mpr c16
      subst c16
      rw [if_neg (show ¬ (false = true) by decide)] at H
      rw [hrt] at H
      exact absurd H (by simp)
    ·
     replace c12 := Bool.eq_false_iff.mpr c12
     subst c12
     rw [if_neg (show ¬ (false = true) by decide)] at H
     rw [hrt] at H
     exact absurd H (by simp)
   ·
    replace c9 := Bool.eq_false_iff.mpr c9
    subst c9
    rw [if_neg (show ¬ (false = true) by decide)] at H
    rw [hrt] at H
    exact absurd H (by simp)
  ·
   replace c5 := Bool.eq_false_iff.mpr c5
   subst c5
   rw [if_neg (show ¬ (false = true) by decide)] at H
   obtain ⟨v2, Q4, H⟩ := bindA H; (try dsimp only at H)
   by_cases u3 : v2 = true
   ·
    subst u3
    rw [if_pos rfl] at H
    rw [hrt] at H
    exact absurd H (by simp)
   ·
    replace u3 := Bool.eq_false_iff.mpr u3
    subst u3
    rw [if_neg (show ¬ (false = true) by decide)] at H
    obtain ⟨v3, Q5, H⟩ := bindA H; (try dsimp only at H); obtain rfl := Option.some.inj H
    go_enter Try.func5, Try.ntmps5
    go_wp2_with (first | ((with_reducible refine gc_ 10 rfl ?_); refine gl_ (some 16) rfl Try.func10 #[.slice A0 l0.length c0] ?_; (with_reducible refine (spec_DrawOpDo.calls k _ _ l0 h8 i1 h7 j3 k0 k4 l4 m0 _ ?side1 ?side2 A3.out).mono ?_); (case side1 => repeat (first | exact HR0.out | (with_reducible refine ybk ?_ _) | (with_reducible refine ybl ?_ _) | (with_reducible refine ybn ?_))); (case side2 => exact HC0.out); rintro e w105 ⟨P7, rfl, ho0, hb⟩; refine ⟨_, rfl, ?_⟩; have a4 := yaa (Kd.Q_lower ho0 (yaz (upH HB.out))); replace HB := yaa (yar (upH HB.out) hb); (try clear hb ho0)) | ((with_reducible refine gd_ 3 rfl ?_); (try (refine gate_guard (by rfl) ?_; dsimp only)); refine bx_ 3 rfl #[.int .i64 0, .int .i64 0, .slice none 0 0] 25 ?_; intro g4 hg w106 hbox hb; replace a4 := yaa (yaw (upQ a4.out) hb); have a1 := yaa (hbox); have t0 := yaa ((by rw [hg]; exact (yaz (upH HB.out)) : w.heap.size ≤ g4)); replace HB := yaa (yar (upH HB.out) hb); have w4 := t0; clear hb hbox hg) | ((with_reducible refine gd_ 4 rfl ?_); (try (refine gate_guard (by rfl) ?_; dsimp only)); refine bx_ 4 rfl #[.int .i64 0, .int .i64 0, .int .i64 0, .int .i64 0, .int .i64 0] 27 ?_; intro f2 hg w107 hbox hb; replace a4 := yaa (yaw (upQ a4.out) hb); have a3 := yaa (hbox); have t1 := yaa ((by rw [hg]; exact (yaz (by repeat (with_reducible first | exact HB.out | apply yah | apply yaf | apply yag | refine yai ?_ (Aside0.out ‹_›)))) : w.heap.size ≤ f2)); replace HB := yaa (yar (by repeat (with_reducible first | exact HB.out | apply yah | apply yaf | apply yag | refine yai ?_ (Aside0.out ‹_›))) hb); have w5 := t1; have f8 := yaa ((by rw [hg]; exact Nat.ne_of_lt (blk_lt (upB a1.out)) : g4 ≠ f2)); replace a1 := yaa (yae (upB a1.out) hb); have i2 := yaa f8.out.symm; clear hb hbox hg; have Q6 := f8.out; have Q7 := i2.out; obtain ⟨z3, z4, z5⟩ := cc3_ a1.out; obtain ⟨z6, z7, z8⟩ := cf3_ a1.out; obtain ⟨m9, m7, z9, _⟩ := Kd.Q_slice a4.out; subst z9; obtain ⟨A1, A2, A5, A9, B0⟩ := cc5_ a3.out; obtain ⟨B1, B2, B3, B4⟩ := cf4_ a3.out; have B5 := blk_frozen a3.out 4) | ((with_reducible refine gd_ 5 rfl ?_); (try (refine gate_guard (by rfl) ?_; dsimp only)); refine bx_ 5 rfl #[.int .i64 0, .int .i64 0, .int .i64 0, .int .i64 0, .int .i64 0] 27 ?_; intro f0 hg w112 hbox hb; replace a4 := yaa (yaw (by (with_reducible repeat (first | apply Kd.Q_alloc | apply Kd.Q_drewN | apply Kd.Q_drew)); exact (Kd.Q_mono (Kd.Q_mono (yam (p := ⟨f2, 4, none⟩) (yam (p := ⟨f2, 3, none⟩) (yam (p := ⟨f2, 2, none⟩) (yam (p := ⟨f2, 1, none⟩) (yam (p := ⟨f2, 0, none⟩) (yam (p := ⟨g4, 2, none⟩) (yam (p := ⟨g4, 1, none⟩) (yam (p := ⟨g4, 0, none⟩) (yab (yab a4.out a1.out (by decide)) a3.out (by decide)) (fun _ hk => hk.1.2) (.int .i64 h8)) (fun _ hk => hk.1.2) (.int .i64 i1)) (fun _ hk => hk.1.2) (.slice m9 h7.length m7)) (fun _ hk => hk.2) (.int .i64 j3)) (fun _ hk => hk.2) (.int .i64 k0)) (fun _ hk => hk.2) (.int .i64 k4)) (fun _ hk => hk.2) (.int .i64 l4)) (fun _ hk => hk.2) (.int .i64 m0)) (fun _ h_ => h_.1)) (fun _ h_ => h_.1))) hb); have a2 := yaa (hbox); have t3 := yaa ((by rw [hg]; exact (yaz (by repeat (with_reducible first | exact HB.out | apply yah | apply yaf | apply yag | refine yai ?_ (Aside0.out ‹_›)))) : w.heap.size ≤ f0)); replace HB := yaa (yar (by repeat (with_reducible first | exact HB.out | apply yah | apply yaf | apply yag | refine yai ?_ (Aside0.out ‹_›))) hb); have w6 := t3; have j5 := yaa ((by rw [hg]; exact Nat.ne_of_lt (blk_lt (g := g4) (o := .cells #[.int .i64 h8, .int .i64 i1, .slice m9 h7.length m7] 25 (0, 0)) (by (repeat refine oneB ?_); refine yao ?_ f8.out _; (repeat refine oneB ?_); refine yao ?_ f8.out _; (repeat refine oneB ?_); refine yao ?_ f8.out _; (repeat refine oneB ?_); refine yao ?_ f8.out _; (repeat refine oneB ?_); refine yao ?_ f8.out _; (repeat refine oneB ?_); refine yal (cs := #[.int .i64 h8, .int .i64 i1, .slice none 0 0]) ?_ 2 _ rfl; refine yal (cs := #[.int .i64 h8, .int .i64 0, .slice none 0 0]) ?_ 1 _ rfl; refine yal (cs := #[.int .i64 0, .int .i64 0, .slice none 0 0]) ?_ 0 _ rfl; exact upB a1.out)) : g4 ≠ f0)); replace a1 := yaa (yae (g := g4) (o := .cells #[.int .i64 h8, .int .i64 i1, .slice m9 h7.length m7] 25 (0, 0)) (by (repeat refine oneB ?_); refine yao ?_ f8.out _; (repeat refine oneB ?_); refine yao ?_ f8.out _; (repeat refine oneB ?_); refine yao ?_ f8.out _; (repeat refine oneB ?_); refine yao ?_ f8.out _; (repeat refine oneB ?_); refine yao ?_ f8.out _; (repeat refine oneB ?_); refine yal (cs := #[.int .i64 h8, .int .i64 i1, .slice none 0 0]) ?_ 2 _ rfl; refine yal (cs := #[.int .i64 h8, .int .i64 0, .slice none 0 0]) ?_ 1 _ rfl; refine yal (cs := #[.int .i64 0, .int .i64 0, .slice none 0 0]) ?_ 0 _ rfl; exact upB a1.out) hb); have n1 := yaa j5.out.symm; have j6 := yaa ((by rw [hg]; exact Nat.ne_of_lt (blk_lt (g := f2) (o := .cells #[.int .i64 j3, .int .i64 k0, .int .i64 k4, .int .i64 l4, .int .i64 m0] 27 (0, 0)) (by (repeat refine oneB ?_); refine yal (cs := #[.int .i64 j3, .int .i64 k0, .int .i64 k4, .int .i64 l4, .int .i64 0]) ?_ 4 _ rfl; refine yal (cs := #[.int .i64 j3, .int .i64 k0, .int .i64 k4, .int .i64 0, .int .i64 0]) ?_ 3 _ rfl; refine yal (cs := #[.int .i64 j3, .int .i64 k0, .int .i64 0, .int .i64 0, .int .i64 0]) ?_ 2 _ rfl; refine yal (cs := #[.int .i64 j3, .int .i64 0, .int .i64 0, .int .i64 0, .int .i64 0]) ?_ 1 _ rfl; refine yal (cs := #[.int .i64 0, .int .i64 0, .int .i64 0, .int .i64 0, .int .i64 0]) ?_ 0 _ rfl; (repeat refine oneB ?_); refine yao ?_ i2.out _; (repeat refine oneB ?_); refine yao ?_ i2.out _; (repeat refine oneB ?_); refine yao ?_ i2.out _; exact upB a3.out)) : f2 ≠ f0)); replace a3 := yaa (yae (g := f2) (o := .cells #[.int .i64 j3, .int .i64 k0, .int .i64 k4, .int .i64 l4, .int .i64 m0] 27 (0, 0)) (by (repeat refine oneB ?_); refine yal (cs := #[.int .i64 j3, .int .i64 k0, .int .i64 k4, .int .i64 l4, .int .i64 0]) ?_ 4 _ rfl; refine yal (cs := #[.int .i64 j3, .int .i64 k0, .int .i64 k4, .int .i64 0, .int .i64 0]) ?_ 3 _ rfl; refine yal (cs := #[.int .i64 j3, .int .i64 k0, .int .i64 0, .int .i64 0, .int .i64 0]) ?_ 2 _ rfl; refine yal (cs := #[.int .i64 j3, .int .i64 0, .int .i64 0, .int .i64 0, .int .i64 0]) ?_ 1 _ rfl; refine yal (cs := #[.int .i64 0, .int .i64 0, .int .i64 0, .int .i64 0, .int .i64 0]) ?_ 0 _ rfl; (repeat refine oneB ?_); refine yao ?_ i2.out _; (repeat refine oneB ?_); refine yao ?_ i2.out _; (repeat refine oneB ?_); refine yao ?_ i2.out _; exact upB a3.out) hb); have n2 := yaa j6.out.symm; clear hb hbox hg; have Q8 := n1.out; have Q9 := j5.out; have R0 := n2.out; have R1 := j6.out; obtain ⟨B6, B7, B8, B9, C0⟩ := cc5_ a2.out; obtain ⟨C1, C2, C3, C4⟩ := cf4_ a2.out; have C5 := blk_frozen a2.out 4) | ((with_reducible refine gd_ 6 rfl ?_); (try (refine gate_guard (by rfl) ?_; dsimp only)); refine bx_ 6 rfl #[.int .i64 0, .int .i64 0, .int .i64 0, .int .i64 0, .int .i64 0] 27 ?_; intro f6 hg w116 hbox hb; replace a4 := yaa (yaw (by (with_reducible repeat (first | apply Kd.Q_alloc | apply Kd.Q_drewN | apply Kd.Q_drew)); exact (Kd.Q_mono (yam (p := ⟨f0, 4, none⟩) (yam (p := ⟨f0, 3, none⟩) (yam (p := ⟨f0, 2, none⟩) (yam (p := ⟨f0, 1, none⟩) (yam (p := ⟨f0, 0, none⟩) (yab a4.out a2.out (by decide)) (fun _ hk => hk.2) (.int .i64 4)) (fun _ hk => hk.2) (.int .i64 0)) (fun _ hk => hk.2) (.int .i64 0)) (fun _ hk => hk.2) (.int .i64 0)) (fun _ hk => hk.2) (.int .i64 0)) (fun _ h_ => h_.1))) hb); have a5 := yaa (hbox); have t4 := yaa ((by rw [hg]; exact (yaz (by repeat (with_reducible first | exact HB.out | apply yah | apply yaf | apply yag | refine yai ?_ (Aside0.out ‹_›)))) : w.heap.size ≤ f6)); replace HB := yaa (yar (by repeat (with_reducible first | exact HB.out | apply yah | apply yaf | apply yag | refine yai ?_ (Aside0.out ‹_›))) hb); have w7 := t4; have j7 := yaa ((by rw [hg]; exact Nat.ne_of_lt (blk_lt (g := g4) (o := .cells #[.int .i64 h8, .int .i64 i1, .slice m9 h7.length m7] 25 (0, 0)) (by repeat (with_reducible first | exact a1.out | refine oneB ?_ | refine yao ?_ j5.out _))) : g4 ≠ f6)); replace a1 := yaa (yae (g := g4) (o := .cells #[.int .i64 h8, .int .i64 i1, .slice m9 h7.length m7] 25 (0, 0)) (by repeat (with_reducible first | exact a1.out | refine oneB ?_ | refine yao ?_ j5.out _)) hb); have n3 := yaa j7.out.symm; have j8 := yaa ((by rw [hg]; exact Nat.ne_of_lt (blk_lt (g := f2) (o := .cells #[.int .i64 j3, .int .i64 k0, .int .i64 k4, .int .i64 l4, .int .i64 m0] 27 (0, 0)) (by repeat (with_reducible first | exact a3.out | refine oneB ?_ | refine yao ?_ j6.out _))) : f2 ≠ f6)); replace a3 := yaa (yae (g := f2) (o := .cells #[.int .i64 j3, .int .i64 k0, .int .i64 k4, .int .i64 l4, .int .i64 m0] 27 (0, 0)) (by repeat (with_reducible first | exact a3.out | refine oneB ?_ | refine yao ?_ j6.out _)) hb); have n4 := yaa j8.out.symm; have j9 := yaa ((by rw [hg]; exact Nat.ne_of_lt (blk_lt (g := f0) (o := .cells #[.int .i64 4, .int .i64 0, .int .i64 0, .int .i64 0, .int .i64 0] 27 (0, 0)) (by (repeat refine oneB ?_); refine yal (cs := #[.int .i64 4, .int .i64 0, .int .i64 0, .int .i64 0, .int .i64 0]) ?_ 4 _ rfl; refine yal (cs := #[.int .i64 4, .int .i64 0, .int .i64 0, .int .i64 0, .int .i64 0]) ?_ 3 _ rfl; refine yal (cs := #[.int .i64 4, .int .i64 0, .int .i64 0, .int .i64 0, .int .i64 0]) ?_ 2 _ rfl; refine yal (cs := #[.int .i64 4, .int .i64 0, .int .i64 0, .int .i64 0, .int .i64 0]) ?_ 1 _ rfl; refine yal (cs := #[.int .i64 0, .int .i64 0, .int .i64 0, .int .i64 0, .int .i64 0]) ?_ 0 _ rfl; exact upB a2.out)) : f0 ≠ f6)); replace a2 := yaa (yae (g := f0) (o := .cells #[.int .i64 4, .int .i64 0, .int .i64 0, .int .i64 0, .int .i64 0] 27 (0, 0)) (by (repeat refine oneB ?_); refine yal (cs := #[.int .i64 4, .int .i64 0, .int .i64 0, .int .i64 0, .int .i64 0]) ?_ 4 _ rfl; refine yal (cs := #[.int .i64 4, .int .i64 0, .int .i64 0, .int .i64 0, .int .i64 0]) ?_ 3 _ rfl; refine yal (cs := #[.int .i64 4, .int .i64 0, .int .i64 0, .int .i64 0, .int .i64 0]) ?_ 2 _ rfl; refine yal (cs := #[.int .i64 4, .int .i64 0, .int .i64 0, .int .i64 0, .int .i64 0]) ?_ 1 _ rfl; refine yal (cs := #[.int .i64 0, .int .i64 0, .int .i64 0, .int .i64 0, .int .i64 0]) ?_ 0 _ rfl; exact upB a2.out) hb); have n5 := yaa j9.out.symm; clear hb hbox hg; have R2 := n3.out; have R3 := j7.out; have R4 := n4.out; have R5 := j8.out; have R6 := n5.out; have R7 := j9.out; obtain ⟨C6, C7, C8, C9, D0⟩ := cc5_ a5.out; obtain ⟨D1, D2, D3, D4⟩ := cf4_ a5.out; have D5 := blk_frozen a5.out 4) | ((with_reducible refine gd_ 7 rfl ?_); (try (refine gate_guard (by rfl) ?_; dsimp only)); refine bx_ 7 rfl #[.int .i64 0, .int .i64 0, .int .i64 0, .int .i64 0, .int .i64 0] 27 ?_; intro f3 hg w121 hbox hb; replace a4 := yaa (yaw (by (with_reducible repeat (first | apply Kd.Q_alloc | apply Kd.Q_drewN | apply Kd.Q_drew)); exact (Kd.Q_mono (yam (p := ⟨f6, 4, none⟩) (yam (p := ⟨f6, 3, none⟩) (yam (p := ⟨f6, 2, none⟩) (yam (p := ⟨f6, 1, none⟩) (yam (p := ⟨f6, 0, none⟩) (yab a4.out a5.out (by decide)) (fun _ hk => hk.2) (.int .i64 2)) (fun _ hk => hk.2) (.int .i64 0)) (fun _ hk => hk.2) (.int .i64 0)) (fun _ hk => hk.2) (.int .i64 0)) (fun _ hk => hk.2) (.int .i64 0)) (fun _ h_ => h_.1))) hb); have a6 := yaa (hbox); have t5 := yaa ((by rw [hg]; exact (yaz (by repeat (with_reducible first | exact HB.out | apply yah | apply yaf | apply yag | refine yai ?_ (Aside0.out ‹_›)))) : w.heap.size ≤ f3)); replace HB := yaa (yar (by repeat (with_reducible first | exact HB.out | apply yah | apply yaf | apply yag | refine yai ?_ (Aside0.out ‹_›))) hb); have w8 := t5; have k8 := yaa ((by rw [hg]; exact Nat.ne_of_lt (blk_lt (g := g4) (o := .cells #[.int .i64 h8, .int .i64 i1, .slice m9 h7.length m7] 25 (0, 0)) (by repeat (with_reducible first | exact a1.out | refine oneB ?_ | refine yao ?_ j7.out _))) : g4 ≠ f3)); replace a1 := yaa (yae (g := g4) (o := .cells #[.int .i64 h8, .int .i64 i1, .slice m9 h7.length m7] 25 (0, 0)) (by repeat (with_reducible first | exact a1.out | refine oneB ?_ | refine yao ?_ j7.out _)) hb); have n6 := yaa k8.out.symm; have k9 := yaa ((by rw [hg]; exact Nat.ne_of_lt (blk_lt (g := f2) (o := .cells #[.int .i64 j3, .int .i64 k0, .int .i64 k4, .int .i64 l4, .int .i64 m0] 27 (0, 0)) (by repeat (with_reducible first | exact a3.out | refine oneB ?_ | refine yao ?_ j8.out _))) : f2 ≠ f3)); replace a3 := yaa (yae (g := f2) (o := .cells #[.int .i64 j3, .int .i64 k0, .int .i64 k4, .int .i64 l4, .int .i64 m0] 27 (0, 0)) (by repeat (with_reducible first | exact a3.out | refine oneB ?_ | refine yao ?_ j8.out _)) hb); have n7 := yaa k9.out.symm; have l1 := yaa ((by rw [hg]; exact Nat.ne_of_lt (blk_lt (g := f0) (o := .cells #[.int .i64 4, .int .i64 0, .int .i64 0, .int .i64 0, .int .i64 0] 27 (0, 0)) (by repeat (with_reducible first | exact a2.out | refine oneB ?_ | refine yao ?_ j9.out _))) : f0 ≠ f3)); replace a2 := yaa (yae (g := f0) (o := .cells #[.int .i64 4, .int .i64 0, .int .i64 0, .int .i64 0, .int .i64 0] 27 (0, 0)) (by repeat (with_reducible first | exact a2.out | refine oneB ?_ | refine yao ?_ j9.out _)) hb); have n8 := yaa l1.out.symm; have l2 := yaa ((by rw [hg]; exact Nat.ne_of_lt (blk_lt (g := f6) (o := .cells #[.int .i64 2, .int .i64 0, .int .i64 0, .int .i64 0, .int .i64 0] 27 (0, 0)) (by (repeat refine oneB ?_); refine yal (cs := #[.int .i64 2, .int .i64 0, .int .i64 0, .int .i64 0, .int .i64 0]) ?_ 4 _ rfl; refine yal (cs := #[.int .i64 2, .int .i64 0, .int .i64 0, .int .i64 0, .int .i64 0]) ?_ 3 _ rfl; refine yal (cs := #[.int .i64 2, .int .i64 0, .int .i64 0, .int .i64 0, .int .i64 0]) ?_ 2 _ rfl; refine yal (cs := #[.int .i64 2, .int .i64 0, .int .i64 0, .int .i64 0, .int .i64 0]) ?_ 1 _ rfl; refine yal (cs := #[.int .i64 0, .int .i64 0, .int .i64 0, .int .i64 0, .int .i64 0]) ?_ 0 _ rfl; exact upB a5.out)) : f6 ≠ f3)); replace a5 := yaa (yae (g := f6) (o := .cells #[.int .i64 2, .int .i64 0, .int .i64 0, .int .i64 0, .int .i64 0] 27 (0, 0)) (by (repeat refine oneB ?_); refine yal (cs := #[.int .i64 2, .int .i64 0, .int .i64 0, .int .i64 0, .int .i64 0]) ?_ 4 _ rfl; refine yal (cs := #[.int .i64 2, .int .i64 0, .int .i64 0, .int .i64 0, .int .i64 0]) ?_ 3 _ rfl; refine yal (cs := #[.int .i64 2, .int .i64 0, .int .i64 0, .int .i64 0, .int .i64 0]) ?_ 2 _ rfl; refine yal (cs := #[.int .i64 2, .int .i64 0, .int .i64 0, .int .i64 0, .int .i64 0]) ?_ 1 _ rfl; refine yal (cs := #[.int .i64 0, .int .i64 0, .int .i64 0, .int .i64 0, .int .i64 0]) ?_ 0 _ rfl; exact upB a5.out) hb); have n9 := yaa l2.out.symm; clear hb hbox hg; have R8 := n6.out; have R9 := k8.out; have S0 := n7.out; have S1 := k9.out; have S2 := n8.out; have S3 := l1.out; have S4 := n9.out; have S5 := l2.out; obtain ⟨D6, D7, D8, D9, E0⟩ := cc5_ a6.out; obtain ⟨E1, E2, E3, E4, E5⟩ := cf5_ a6.out; obtain ⟨E6, E7, E8⟩ := cc3_ a1.out; obtain ⟨E9, F0⟩ := cf2_ a1.out; have F1 := blk_frozen a1.out 2) | ((with_reducible refine gc_ 16 rfl ?_); refine gl_ (some 23) rfl Try.func16 #[.agg #[.int .i64 h8, .int .i64 i1, .slice m9 h7.length m7]] ?_; (with_reducible refine (spec_RasOk.calls k h8 i1 _ _ h7 false _ ?side1 ?side2 A4.out).mono ?_); (case side1 => refine (Kd.Q_reads' (e := 36) (base := w.heap.size) (ok := fun k_ => True) (n := h7.length) (c := m7) ?_).2.2; exact (by (with_reducible repeat (first | apply Kd.Q_alloc | apply Kd.Q_drewN | apply Kd.Q_drew)); exact (Kd.Q_mono (yam (p := ⟨f3, 4, none⟩) (yam (p := ⟨f3, 3, none⟩) (yam (p := ⟨f3, 2, none⟩) (yam (p := ⟨f3, 1, none⟩) (yam (p := ⟨f3, 0, none⟩) (yab a4.out a6.out (by decide)) (fun _ hk => hk.2) (.int .i64 3)) (fun _ hk => hk.2) (.int .i64 0)) (fun _ hk => hk.2) (.int .i64 0)) (fun _ hk => hk.2) (.int .i64 0)) (fun _ hk => hk.2) (.int .i64 0)) (fun _ h_ => h_.1)))); (case side2 => exact (Kd.Q_reads' a4.out).2.1); rintro e w128 ⟨rfl, hb⟩; refine ⟨_, rfl, ?_⟩; replace a4 := yaa (yaw (by (with_reducible repeat (first | apply Kd.Q_alloc | apply Kd.Q_drewN | apply Kd.Q_drew)); exact (Kd.Q_mono (yam (p := ⟨f3, 4, none⟩) (yam (p := ⟨f3, 3, none⟩) (yam (p := ⟨f3, 2, none⟩) (yam (p := ⟨f3, 1, none⟩) (yam (p := ⟨f3, 0, none⟩) (yab a4.out a6.out (by decide)) (fun _ hk => hk.2) (.int .i64 3)) (fun _ hk => hk.2) (.int .i64 0)) (fun _ hk => hk.2) (.int .i64 0)) (fun _ hk => hk.2) (.int .i64 0)) (fun _ hk => hk.2) (.int .i64 0)) (fun _ h_ => h_.1))) hb); replace a1 := yaa (yae (g := g4) (o := .cells #[.int .i64 h8, .int .i64 i1, .slice m9 h7.length m7] 25 (0, 0)) (by repeat (with_reducible first | exact a1.out | refine oneB ?_ | refine yao ?_ k8.out _)) hb); replace a3 := yaa (yae (g := f2) (o := .cells #[.int .i64 j3, .int .i64 k0, .int .i64 k4, .int .i64 l4, .int .i64 m0] 27 (0, 0)) (by repeat (with_reducible first | exact a3.out | refine oneB ?_ | refine yao ?_ k9.out _)) hb); replace a2 := yaa (yae (g := f0) (o := .cells #[.int .i64 4, .int .i64 0, .int .i64 0, .int .i64 0, .int .i64 0] 27 (0, 0)) (by repeat (with_reducible first | exact a2.out | refine oneB ?_ | refine yao ?_ l1.out _)) hb); replace a5 := yaa (yae (g := f6) (o := .cells #[.int .i64 2, .int .i64 0, .int .i64 0, .int .i64 0, .int .i64 0] 27 (0, 0)) (by repeat (with_reducible first | exact a5.out | refine oneB ?_ | refine yao ?_ l2.out _)) hb); replace a6 := yaa (yae (g := f3) (o := .cells #[.int .i64 3, .int .i64 0, .int .i64 0, .int .i64 0, .int .i64 0] 27 (0, 0)) (by (repeat refine oneB ?_); refine yal (cs := #[.int .i64 3, .int .i64 0, .int .i64 0, .int .i64 0, .int .i64 0]) ?_ 4 _ rfl; refine yal (cs := #[.int .i64 3, .int .i64 0, .int .i64 0, .int .i64 0, .int .i64 0]) ?_ 3 _ rfl; refine yal (cs := #[.int .i64 3, .int .i64 0, .int .i64 0, .int .i64 0, .int .i64 0]) ?_ 2 _ rfl; refine yal (cs := #[.int .i64 3, .int .i64 0, .int .i64 0, .int .i64 0, .int .i64 0]) ?_ 1 _ rfl; refine yal (cs := #[.int .i64 0, .int .i64 0, .int .i64 0, .int .i64 0, .int .i64 0]) ?_ 0 _ rfl; exact upB a6.out) hb); replace HB := yaa (yar (by repeat (with_reducible first | exact HB.out | apply yah | apply yaf | apply yag | refine yai ?_ (Aside0.out ‹_›))) hb); (try clear hb); obtain ⟨F2, F3, F4⟩ := cc3_ a1.out; obtain ⟨F5, F6⟩ := cf2_ a1.out; have F7 := blk_frozen a1.out 2) | ((with_reducible refine gc_ 17 rfl ?_); refine gl_ (some 26) rfl Try.func17 #[.agg #[.int .i64 h8, .int .i64 i1, .slice m9 h7.length m7]] ?_; (with_reducible refine (impl_RasOk.calls k h8 i1 _ _ h7 false _ ?side1 ?side2 Q4.out).mono ?_); (case side1 => repeat (first | exact (Kd.Q_reads' a4.out).2.2 | (with_reducible refine ybk ?_ _) | (with_reducible refine ybl ?_ _) | (with_reducible refine ybn ?_))); (case side2 => exact (Kd.Q_reads' a4.out).2.1); rintro e w130 ⟨rfl, hb⟩; refine ⟨_, rfl, ?_⟩; replace a4 := yaa (yaw (upQ a4.out) hb); replace a1 := yaa (yae (upB a1.out) hb); replace a3 := yaa (yae (upB a3.out) hb); replace a2 := yaa (yae (upB a2.out) hb); replace a5 := yaa (yae (upB a5.out) hb); replace a6 := yaa (yae (upB a6.out) hb); replace HB := yaa (yar (by repeat (with_reducible first | exact HB.out | apply yah | apply yaf | apply yag | refine yai ?_ (Aside0.out ‹_›))) hb); (try clear hb)) | (go_at_call 14; (with_reducible refine (laws_eaOk.calls  v3 _ Q5.out).mono ?_); rintro e w131 ⟨rfl, hb⟩; replace a4 := yaa (yaw (upQ a4.out) hb); replace a1 := yaa (yae (upB a1.out) hb); replace a3 := yaa (yae (upB a3.out) hb); replace a2 := yaa (yae (upB a2.out) hb); replace a5 := yaa (yae (upB a5.out) hb); replace a6 := yaa (yae (upB a6.out) hb); replace HB := yaa (yar (by repeat (with_reducible first | exact HB.out | apply yah | apply yaf | apply yag | refine yai ?_ (Aside0.out ‹_›))) hb); (try clear hb)))
    go_ret
    exact ⟨by first | rfl | (simp [*, errW_none, errW_some] <;> rfl), by repeat (with_reducible first | exact HB.out | apply yah | apply yaf | apply yag | refine yai ?_ (Aside0.out ‹_›))⟩

/-- THE ONE PURE STATEMENT of laws_FnOpTurn: yours. -/
def laws_FnOpTurn.Pure : Prop := ∀ (l0 : List Int), l0.length ≤ maxLen → l0.length * 1 ≤ 140737488351232 → (∀ x ∈ l0, (Lit.int .u8 x).wf = true) → ∃ k, laws_FnOpTurn.f k l0 = some true
theorem laws_FnOpTurn.walk (P : laws_FnOpTurn.Pure) (a0 : Option Addr) (len0 cap0 : Nat) (z0 : List Int) (w : World) (w0 : (a0 = none ∧ len0 = 0 ∧ cap0 = 0 ∧ z0 = []) ∨ ∃ x, a0 = some x ∧ len0 ≤ cap0 ∧ cap0 ≤ maxLen ∧ z0.length = cap0 ∧ (∀ i, i < z0.length → w.cell? (x.add i) = some (.int .u8 (z0.getD i 0))) ∧ ∀ n ∈ z0, (Lit.int .u8 n).wf = true) (y0 : len0 * 1 ≤ 140737488351232) :
  Calls Try.prog 5 #[.slice a0 len0 cap0] w fun e w' => e = .returned (.bool true) ∧ Below w.heap.size w w' := by
 obtain ⟨l0, rfl, hr0, hm0, hw0, hc0⟩ := ReadsInt.ofRowC w0; obtain ⟨k, h⟩ := P l0 hm0 y0 hw0
 refine (laws_FnOpTurn.calls k _ _ l0 true w (Kd.C_of_reads (d := (0 : Int)) (h1 := fun _ => rfl) hr0) hc0 h rfl).mono ?_
 rintro e w' ⟨rfl, hd⟩
 exact ⟨rfl, hd⟩
end
end Go.Proofs.Ytoifpgkfpdeglaa.X
namespace Go.Proofs.Ytoifpgkfpdeglaa.X
open Go.RowKit Go.Proofs.YtoifpgkfpdeglaaW.PrintWords Go.Proofs.Ytoifpgkfpdeglaa.Pl
set_option linter.unusedSimpArgs false
set_option linter.unusedVariables false

theorem mk_succ (w h : Nat) (f : Nat → Nat → Pix) : mk w (h + 1) f = mk w h f ++ (List.range' 0 w).map fun x => f x h := by
  unfold mk
  rw [Nat.mul_add, Nat.mul_one, List.range_add, List.map_append, List.map_map, ← List.range_eq_range']
  congr 1
  apply List.map_congr_left
  intro x hx
  have hx' := List.mem_range.1 hx
  show f ((w * h + x) % w) ((w * h + x) / w) = f x h
  rw [Nat.mul_add_mod, Nat.mod_eq_of_lt hx', Nat.mul_add_div (by omega), Nat.div_eq_of_lt hx', Nat.add_zero]
theorem mk_zero (w : Nat) (f : Nat → Nat → Pix) : mk w 0 f = [] := by unfold mk; simp
theorem ev_rows {β : Type} (w h : Nat) (f : Nat → Nat → Pix) (g0 : Nat → Nat → List Pix → Option β) (g1 : Nat → Nat → Nat → List Pix → Option β) (R : β) (hw : w ≤ 6) (hh : h ≤ 6)
    (hstart : ∀ i s r, i < h → Ev (fun k => g1 k i 0 s) r → Ev (fun k => g0 k i s) r)
    (hin : ∀ i j s r, i < h → j < w → s.length ≤ 10000 → Ev (fun k => g1 k i (j + 1) (s ++ [f j i])) r → Ev (fun k => g1 k i j s) r)
    (hout : ∀ i s r, i < h → Ev (fun k => g0 k (i + 1) s) r → Ev (fun k => g1 k i w s) r)
    (hend : Ev (fun k => g0 k h (mk w h f)) R) : Ev (fun k => g0 k 0 []) R := by
  have inner : ∀ i, i < h → ∀ d j, j + d = w → ∀ (s : List Pix) r, s.length + d ≤ 10000 → Ev (fun k => g1 k i w (s ++ (List.range' j d).map fun x => f x i)) r → Ev (fun k => g1 k i j s) r := by
    intro i hi d
    induction d with
    | zero => intro j hj s r _ h; obtain rfl : j = w := by omega
              simpa using h
    | succ d ih =>
      intro j hj s r hs h
      refine hin i j s r hi (by omega) (by omega) (ih (j + 1) (by omega) _ r (by rw [List.length_append]; simp only [List.length_cons, List.length_nil]; omega) ?_)
      rw [List.range'_succ, List.map_cons] at h
      rw [List.append_assoc, List.singleton_append]
      exact h
  have outer : ∀ d i, i + d = h → Ev (fun k => g0 k i (mk w i f)) R := by
    intro d
    induction d with
    | zero => intro i hi; obtain rfl : i = h := by omega
              exact hend
    | succ d ih =>
      intro i hi
      have hm : w * i ≤ 6 * 6 := Nat.mul_le_mul hw (by omega)
      refine hstart i _ R (by omega) (inner i (by omega) w 0 (by omega) _ R (by rw [mk_length]; omega) (hout i _ R (by omega) ?_))
      rw [← mk_succ]
      exact ih (i + 1) (by omega)
  have := outer h 0 (by omega)
  rwa [mk_zero] at this
theorem ev_line {β : Type} (n : Nat) (F : Nat → Pix) (g : Nat → Nat → List Pix → Option β) (R : β) (hn : n ≤ 10000)
    (hstep : ∀ i s r, i < n → s.length = i → Ev (fun k => g k (i + 1) (s ++ [F i])) r → Ev (fun k => g k i s) r)
    (hend : Ev (fun k => g k n ((List.range n).map F)) R) : Ev (fun k => g k 0 []) R := by
  have outer : ∀ d i, i + d = n → Ev (fun k => g k i ((List.range i).map F)) R := by
    intro d
    induction d with
    | zero => intro i hi; obtain rfl : i = n := by omega
              exact hend
    | succ d ih =>
      intro i hi
      refine hstep i _ R (by omega) (by simp) ?_
      have := ih (i + 1) (by omega)
      rwa [List.range_succ, List.map_append] at this
  exact outer n 0 (by omega)

/-! ### Small numbers -/
theorem wadd {a b : Nat} (h : a + b ≤ 1000000) : wrap64 ((a : Int) + (b : Int)) = ((a + b : Nat) : Int) := by rw [← Int.natCast_add]; exact wrap_id (by omega) (by omega)
theorem wadd1 {a : Nat} (h : a ≤ 999999) : wrap64 ((a : Int) + 1) = ((a + 1 : Nat) : Int) := wadd (a := a) (b := 1) (by omega)
theorem wmul {a b : Nat} (h : a * b ≤ 1000000) : wrap64 ((a : Int) * (b : Int)) = ((a * b : Nat) : Int) := by
  rw [← Int.natCast_mul]; exact wrap_id (Int.le_trans (by decide) (Int.natCast_nonneg _)) (Int.le_trans (Int.ofNat_le.2 h) (by decide))
theorem wmul2 {b : Nat} (h : b ≤ 1000) : wrap64 (2 * (b : Int)) = ((2 * b : Nat) : Int) := wmul (a := 2) (b := b) (by omega)
theorem wsub {a b : Nat} (h : b ≤ a) (ha : a ≤ 1000000) : wrap64 ((a : Int) - (b : Int)) = ((a - b : Nat) : Int) := by rw [← Int.ofNat_sub h]; exact wrap_id (by omega) (by omega)
theorem wsub1 {a : Nat} (h : 1 ≤ a) (ha : a ≤ 1000000) : wrap64 ((a : Int) - 1) = ((a - 1 : Nat) : Int) := wsub (b := 1) h ha
theorem wdiv {a b : Nat} (ha : a ≤ 1000000) : wrap64 (Int.tdiv (a : Int) (b : Int)) = ((a / b : Nat) : Int) := by
  rw [show Int.tdiv (a : Int) (b : Int) = ((a / b : Nat) : Int) from rfl]
  have := Nat.div_le_self a b
  exact wrap_id (Int.le_trans (by decide) (Int.natCast_nonneg _)) (Int.le_trans (Int.ofNat_le.2 (Nat.le_trans this ha)) (by decide))
theorem place_le {x y wd hg : Nat} (hw : wd ≤ 6) (hh : hg ≤ 6) (hy : y < hg) (hx : x < wd) : y * wd ≤ 36 ∧ y * wd + x ≤ 100 := by
  have : y * wd ≤ 6 * 6 := Nat.mul_le_mul (by omega) hw
  omega
theorem at_place {l : List Pix} {wd hg x y : Nat} (hl : l.length = wd * hg) (hx : x < wd) (hy : y < hg) : (0 : Int) ≤ ((y * wd + x : Nat) : Int) ∧ ((y * wd + x : Nat) : Int) < (l.length : Int) := by
  have := place_lt hx hy hl
  omega
theorem rd_pix (l : List Pix) (wd x y : Nat) : (⟨(rd_T36 l ((y * wd + x : Nat) : Int)).f0, (rd_T36 l ((y * wd + x : Nat) : Int)).f1, (rd_T36 l ((y * wd + x : Nat) : Int)).f2, (rd_T36 l ((y * wd + x : Nat) : Int)).f3⟩ : Pix) = pix l wd x y := rfl

theorem spec_l6Crop_ev {wd hg : Nat} {l : List Pix} (hv : Valid wd hg l) (o : Op) (h0 : o.f0 = 1) (ho : OkO o) (hm : hasM o wd hg = true) :
    Ev (fun k => spec_l6Crop.f k wd hg l o.f0 o.f1 o.f2 o.f3 o.f4) ((wideM o wd hg : Int), (highM o wd hg : Int), picM o wd hg l) := by
  obtain ⟨hw, hh, hl, -⟩ := hv
  have hbd : (0 ≤ o.f1 ∧ o.f1 ≤ 5) ∧ (0 ≤ o.f2 ∧ o.f2 ≤ 5) ∧ (1 ≤ o.f3 ∧ o.f3 ≤ 6) ∧ (1 ≤ o.f4 ∧ o.f4 ≤ 6) := by
    rcases ho with ⟨_, h⟩ | ⟨h, _⟩ | ⟨h, _⟩ | ⟨h, _⟩
    · exact h
    · omega
    · omega
    · omega
  have hc := hasM_crop hm h0
  obtain ⟨a0, a1, a2, a3, a4⟩ := o
  dsimp only at h0 hbd hc ⊢
  obtain ⟨A, rfl⟩ : ∃ n : Nat, a1 = n := ⟨a1.toNat, by omega⟩
  obtain ⟨B, rfl⟩ : ∃ n : Nat, a2 = n := ⟨a2.toNat, by omega⟩
  obtain ⟨C, rfl⟩ : ∃ n : Nat, a3 = n := ⟨a3.toNat, by omega⟩
  obtain ⟨D, rfl⟩ : ∃ n : Nat, a4 = n := ⟨a4.toNat, by omega⟩
  subst h0
  have e : picM ⟨1, A, B, C, D⟩ wd hg l = mk C D fun x y => pix l wd (A + x) (B + y) := rfl
  rw [e]
  refine ev_rows C D (fun x y => pix l wd (A + x) (B + y)) (fun k i s => spec_l6Crop.l0 k i wd hg l 1 A B C D C D s) (fun k i j s => spec_l6Crop.l1 k i j wd hg l 1 A B C D C D s) _ (by omega) (by omega) ?_ ?_ ?_ ?_
  · intro i s r hi h
    refine Ev.step (fun k => ?_) h
    simp only [spec_l6Crop.l0]
    rw [if_pos (by omega)]
    rfl
  · intro i j s r hi hj hs h
    refine Ev.step (fun k => ?_) h
    have hp := place_le hw.2 hh.2 (show B + i < hg by omega) (show A + j < wd by omega)
    have ha := at_place hl (show A + j < wd by omega) (show B + i < hg by omega)
    simp only [spec_l6Crop.l1]
    rw [if_pos (by omega), wadd (a := B) (b := i) (by omega), wmul (by omega), wadd (b := A) (by omega), wadd (b := j) (by omega), Nat.add_assoc, if_pos ha.1, if_pos ha.2, if_pos (by omega), wadd1 (by omega), rd_pix]
  · intro i s r hi h
    refine Ev.step (fun k => ?_) h
    simp only [spec_l6Crop.l1]
    rw [if_neg (by omega), wadd1 (by omega)]
  · refine ev_succ ⟨0, fun k _ => ?_⟩
    simp only [spec_l6Crop.l0]
    rw [if_neg (by omega)]
    rfl
theorem spec_l6FlipX_ev {wd hg : Nat} {l : List Pix} (hv : Valid wd hg l) : Ev (fun k => spec_l6FlipX.f k wd hg l) ((wd : Int), (hg : Int), picM ⟨2, 0, 0, 0, 0⟩ wd hg l) := by
  obtain ⟨hw, hh, hl, -⟩ := hv
  rw [picM_flipX]
  refine ev_rows wd hg (fun x y => pix l wd (wd - 1 - x) y) (fun k i s => spec_l6FlipX.l0 k i wd hg l wd hg s) (fun k i j s => spec_l6FlipX.l1 k i ((wd : Int) - 1 - j) wd hg l wd hg s) _ (by omega) (by omega) ?_ ?_ ?_ ?_
  · intro i s r hi h
    refine Ev.step (fun k => ?_) h
    simp only [spec_l6FlipX.l0]
    rw [if_pos (by omega), wsub1 (by omega) (by omega)]
    congr 1
    omega
  · intro i j s r hi hj hs h
    refine Ev.step (fun k => ?_) h
    have hp := place_le hw.2 hh.2 hi (show wd - 1 - j < wd by omega)
    have ha := at_place hl (show wd - 1 - j < wd by omega) hi
    have e1 : (wd : Int) - 1 - (j : Int) = ((wd - 1 - j : Nat) : Int) := by omega
    have e2 : wrap64 (((wd - 1 - j : Nat) : Int) - 1) = (wd : Int) - 1 - ((j + 1 : Nat) : Int) := by rw [wrap_id (by omega) (by omega)]; omega
    simp only [spec_l6FlipX.l1]
    rw [if_pos (by omega), e1, wmul (by omega), wadd (by omega), if_pos ha.1, if_pos ha.2, if_pos (by omega), e2, rd_pix]
  · intro i s r hi h
    refine Ev.step (fun k => ?_) h
    simp only [spec_l6FlipX.l1]
    rw [if_neg (by omega), wadd1 (by omega)]
  · refine ev_succ ⟨0, fun k _ => ?_⟩
    simp only [spec_l6FlipX.l0]
    rw [if_neg (by omega)]
theorem spec_l6Turn_ev {wd hg : Nat} {l : List Pix} (hv : Valid wd hg l) : Ev (fun k => spec_l6Turn.f k wd hg l) ((hg : Int), (wd : Int), picM ⟨4, 0, 0, 0, 0⟩ wd hg l) := by
  obtain ⟨hw, hh, hl, -⟩ := hv
  rw [picM_turn]
  refine ev_rows hg wd (fun x y => pix l wd y (hg - 1 - x)) (fun k i s => spec_l6Turn.l0 k i wd hg l hg wd s) (fun k i j s => spec_l6Turn.l1 k i j wd hg l hg wd s) _ (by omega) (by omega) ?_ ?_ ?_ ?_
  · intro i s r hi h
    refine Ev.step (fun k => ?_) h
    simp only [spec_l6Turn.l0]
    rw [if_pos (by omega)]
    rfl
  · intro i j s r hi hj hs h
    refine Ev.step (fun k => ?_) h
    have hp := place_le hw.2 hh.2 (show hg - 1 - j < hg by omega) hi
    have ha := at_place hl hi (show hg - 1 - j < hg by omega)
    simp only [spec_l6Turn.l1]
    rw [if_pos (by omega), wsub1 (by omega) (by omega), wsub (by omega) (by omega), wmul (by omega), wadd (by omega), if_pos ha.1, if_pos ha.2, if_pos (by omega), wadd1 (by omega), rd_pix]
  · intro i s r hi h
    refine Ev.step (fun k => ?_) h
    simp only [spec_l6Turn.l1]
    rw [if_neg (by omega), wadd1 (by omega)]
  · refine ev_succ ⟨0, fun k _ => ?_⟩
    simp only [spec_l6Turn.l0]
    rw [if_neg (by omega)]
theorem spec_l6Size_ev {wd hg : Nat} {l : List Pix} (hv : Valid wd hg l) {a b : Nat} (ha : 1 ≤ a ∧ a ≤ 6) (hb : 1 ≤ b ∧ b ≤ 6) : Ev (fun k => spec_l6Size.f k wd hg l 7 a b 0 0) ((a : Int), (b : Int), picM ⟨7, a, b, 0, 0⟩ wd hg l) := by
  obtain ⟨hw, hh, hl, -⟩ := hv
  have e : picM ⟨7, a, b, 0, 0⟩ wd hg l = mk a b fun x y => pix l wd ((2 * x + 1) * wd / (2 * a)) ((2 * y + 1) * hg / (2 * b)) := rfl
  rw [e]
  refine ev_rows a b (fun x y => pix l wd ((2 * x + 1) * wd / (2 * a)) ((2 * y + 1) * hg / (2 * b))) (fun k i s => spec_l6Size.l0 k i wd hg l 7 a b 0 0 a b s) (fun k i j s => spec_l6Size.l1 k i j wd hg l 7 a b 0 0 a b s) _ (by omega) (by omega) ?_ ?_ ?_ ?_
  · intro i s r hi h
    refine Ev.step (fun k => ?_) h
    simp only [spec_l6Size.l0]
    rw [if_pos (by omega)]
    rfl
  · intro i j s r hi hj hs h
    refine Ev.step (fun k => ?_) h
    have hx := scale_lt (n := a) hj (show 0 < wd by omega)
    have hy := scale_lt (n := b) hi (show 0 < hg by omega)
    have hp := place_le hw.2 hh.2 hy hx
    have hat := at_place hl hx hy
    have q1 : (2 * i + 1) * hg ≤ 13 * 6 := Nat.mul_le_mul (by omega) hh.2
    have q2 : (2 * j + 1) * wd ≤ 13 * 6 := Nat.mul_le_mul (by omega) hw.2
    simp only [spec_l6Size.l1]
    rw [if_pos (by omega), wmul2 (b := b) (by omega), if_neg (by omega), wmul2 (b := a) (by omega), if_neg (by omega), wmul2 (b := i) (by omega), wadd1 (by omega), wmul (by omega), wdiv (by omega), wmul2 (b := j) (by omega), wadd1 (by omega), wmul (a := 2 * j + 1) (b := wd) (by omega), wdiv (by omega), wmul (by omega), wadd (by omega), if_pos hat.1, if_pos hat.2, if_pos (by omega), wadd1 (by omega), rd_pix]
  · intro i s r hi h
    refine Ev.step (fun k => ?_) h
    simp only [spec_l6Size.l1]
    rw [if_neg (by omega), wadd1 (by omega)]
  · refine ev_succ ⟨0, fun k _ => ?_⟩
    simp only [spec_l6Size.l0]
    rw [if_neg (by omega)]
end Go.Proofs.Ytoifpgkfpdeglaa.X
namespace Go.Proofs.Ytoifpgkfpdeglaa.X
open Go.RowKit Go.Proofs.YtoifpgkfpdeglaaW.PrintWords Go.Proofs.Ytoifpgkfpdeglaa.Pl
set_option linter.unusedSimpArgs false
set_option linter.unusedVariables false

theorem ev_blocks {β : Type} (w h : Nat) (f : Nat → Nat → Pix) (g : Nat → Nat → List Pix → Option β) (R : β) (hw : w ≤ 6) (hh : h ≤ 6)
    (hstep : ∀ i s r, i < h → s.length ≤ 10000 → Ev (fun k => g k (i + 1) (s ++ (List.range' 0 w).map fun x => f x i)) r → Ev (fun k => g k i s) r)
    (hend : Ev (fun k => g k h (mk w h f)) R) : Ev (fun k => g k 0 []) R := by
  have outer : ∀ d i, i + d = h → Ev (fun k => g k i (mk w i f)) R := by
    intro d
    induction d with
    | zero => intro i hi; obtain rfl : i = h := by omega
              exact hend
    | succ d ih =>
      intro i hi
      have hm : w * i ≤ 6 * 6 := Nat.mul_le_mul hw (by omega)
      refine hstep i _ R (by omega) (by rw [mk_length]; omega) ?_
      rw [← mk_succ]
      exact ih (i + 1) (by omega)
  have := outer h 0 (by omega)
  rwa [mk_zero] at this
theorem row_eq {wd hg y : Nat} {l : List Pix} (hl : l.length = wd * hg) (hy : y < hg) : (l.take ((y + 1) * wd)).drop (y * wd) = (List.range' 0 wd).map fun x => pix l wd x y := by
  have h1 : (y + 1) * wd ≤ hg * wd := Nat.mul_le_mul_right _ (by omega)
  have h2 : (y + 1) * wd = y * wd + wd := by rw [Nat.add_mul, Nat.one_mul]
  have h3 : hg * wd = l.length := by rw [hl, Nat.mul_comm]
  rw [← List.range_eq_range']
  apply List.ext_getElem?
  intro i
  rw [List.getElem?_drop, List.getElem?_take, List.getElem?_map]
  by_cases hi : i < wd
  · rw [if_pos (by omega), List.getElem?_range hi, List.getElem?_eq_getElem (by omega)]
    unfold pix
    rw [Option.map_some, List.getD_eq_getElem?_getD, List.getElem?_eq_getElem (by omega)]
    rfl
  · rw [if_neg (by omega), List.getElem?_eq_none (by simp; omega)]
    rfl
theorem spec_l5Flip_ev {wd hg : Nat} {l : List Pix} (hv : Valid wd hg l) : Ev (fun k => spec_l5Flip.f k wd hg l) ((wd : Int), (hg : Int), picM ⟨3, 0, 0, 0, 0⟩ wd hg l) := by
  obtain ⟨hw, hh, hl, -⟩ := hv
  rw [picM_flipY]
  have := ev_blocks wd hg (fun x y => pix l wd x (hg - 1 - y)) (fun k i s => spec_l5Flip.l0 k ((hg : Int) - 1 - i) wd hg l wd hg s) ((wd : Int), (hg : Int), mk wd hg fun x y => pix l wd x (hg - 1 - y)) (by omega) (by omega) ?_ ?_
  · refine Ev.congr (fun k => ?_) this
    show spec_l5Flip.f k wd hg l = _
    unfold spec_l5Flip.f
    rw [wrap_id (x := (hg : Int) - 1) (by omega) (by omega)]
    congr 1
    omega
  · intro i s r hi hs h
    refine Ev.step (fun k => ?_) h
    have e1 : (hg : Int) - 1 - (i : Int) = ((hg - 1 - i : Nat) : Int) := by omega
    have e2 : wrap64 (((hg - 1 - i : Nat) : Int) - 1) = (hg : Int) - 1 - ((i + 1 : Nat) : Int) := by rw [wrap_id (by omega) (by omega)]; omega
    have q1 : (hg - 1 - i) * wd ≤ 6 * 6 := Nat.mul_le_mul (by omega) hw.2
    have q2 : (hg - 1 - i + 1) * wd ≤ 7 * 6 := Nat.mul_le_mul (by omega) hw.2
    have h1 : (hg - 1 - i + 1) * wd ≤ hg * wd := Nat.mul_le_mul_right _ (by omega)
    have h2 : (hg - 1 - i + 1) * wd = (hg - 1 - i) * wd + wd := by rw [Nat.add_mul, Nat.one_mul]
    have h3 : hg * wd = l.length := by rw [hl, Nat.mul_comm]
    have hr := row_eq (y := hg - 1 - i) hl (by omega)
    have hlen : ((l.take ((hg - 1 - i + 1) * wd)).drop ((hg - 1 - i) * wd)).length ≤ 100 := by rw [hr]; simp; omega
    simp only [spec_l5Flip.l0]
    rw [if_pos (by omega), e1, wmul (by omega), wadd1 (by omega), wmul (by omega), if_pos (by omega), if_pos (by omega), if_pos (by omega), Option.bind_some, Int.toNat_natCast, Int.toNat_natCast, if_pos (by omega), e2, hr]
  · refine ev_succ ⟨0, fun k _ => ?_⟩
    simp only [spec_l5Flip.l0]
    rw [if_neg (by omega)]

/-! ### Colour by colour -/
theorem mnmx (a b : Int) : mn a b = (if b < a then b else a) ∧ mx a b = (if a < b then b else a) := ⟨rfl, rfl⟩
theorem mean_inner (l : List Pix) {wd hg x y Y : Nat} (hl : l.length = wd * hg) (hw : wd ≤ 6) (hh : hg ≤ 6) (hx : x < wd) (hY : Y < hg) (r : Int × Int × Int × Int) : ∀ d X C (s : Pix), X + d = nearLo x + nearMany x wd → C + d ≤ 1000 →
    Ev (fun k => spec_l6Mean.l0 k x y ((C + d : Nat) : Int) ((Y + 1 : Nat) : Int) wd hg l (rowSum l wd Y X d s).f0 (rowSum l wd Y X d s).f1 (rowSum l wd Y X d s).f2 (rowSum l wd Y X d s).f3) r →
    Ev (fun k => spec_l6Mean.l1 k x y C Y X wd hg l s.f0 s.f1 s.f2 s.f3) r := by
  have hn := nearMany_pos hx
  have hmin : mn (wrap64 ((wd : Int) - 1)) (wrap64 ((x : Int) + 1)) = ((nearLo x + nearMany x wd : Nat) : Int) - 1 := by
    rw [wrap_id (x := (wd : Int) - 1) (by omega) (by omega), wrap_id (x := (x : Int) + 1) (by omega) (by omega), (mnmx _ _).1, hn.2.1]
    split <;> omega
  intro d
  induction d with
  | zero =>
    intro X C s hX hC h
    refine Ev.step (fun k => ?_) h
    simp only [spec_l6Mean.l1]
    rw [hmin, if_neg (by omega), wadd1 (by omega)]
    rfl
  | succ d ih =>
    intro X C s hX hC h
    have hXw : X < wd := near_lt hx (by omega)
    have hp := place_le hw hh hY hXw
    have ha := at_place hl hXw hY
    have := ih (X + 1) (C + 1) (addP s (pix l wd X Y)) (by omega) (by omega) (by rw [show C + 1 + d = C + (d + 1) by omega]; exact h)
    refine Ev.step (fun k => ?_) this
    simp only [spec_l6Mean.l1]
    rw [hmin, if_pos (by omega), wmul (by omega), wadd (by omega), if_pos ha.1, if_pos ha.2, wadd1 (by omega), wadd1 (by omega)]
    rfl
theorem mean_outer (l : List Pix) {wd hg x y : Nat} (hl : l.length = wd * hg) (hw : wd ≤ 6) (hh : hg ≤ 6) (hx : x < wd) (hy : y < hg) : ∀ d Y C (s : Pix), Y + d = nearLo y + nearMany y hg → C + d * nearMany x wd = nearMany y hg * nearMany x wd →
    Ev (fun k => spec_l6Mean.l0 k x y C Y wd hg l s.f0 s.f1 s.f2 s.f3) ((meanP (boxSum l wd (nearLo x) (nearMany x wd) Y d s) (nearMany y hg * nearMany x wd)).f0, (meanP (boxSum l wd (nearLo x) (nearMany x wd) Y d s) (nearMany y hg * nearMany x wd)).f1, (meanP (boxSum l wd (nearLo x) (nearMany x wd) Y d s) (nearMany y hg * nearMany x wd)).f2, (meanP (boxSum l wd (nearLo x) (nearMany x wd) Y d s) (nearMany y hg * nearMany x wd)).f3) := by
  have hn := nearMany_pos hy
  have hnx := nearMany_pos hx
  have hmb := many_bd hx hy
  have hmin : mn (wrap64 ((hg : Int) - 1)) (wrap64 ((y : Int) + 1)) = ((nearLo y + nearMany y hg : Nat) : Int) - 1 := by
    rw [wrap_id (x := (hg : Int) - 1) (by omega) (by omega), wrap_id (x := (y : Int) + 1) (by omega) (by omega), (mnmx _ _).1, hn.2.1]
    split <;> omega
  have hmax : mx 0 (wrap64 ((x : Int) - 1)) = ((nearLo x : Nat) : Int) := by
    rw [wrap_id (x := (x : Int) - 1) (by omega) (by omega), (mnmx _ _).2]
    unfold nearLo
    split <;> omega
  intro d
  induction d with
  | zero =>
    intro Y C s hY hC
    rw [Nat.zero_mul, Nat.add_zero] at hC
    refine ev_succ ⟨0, fun k _ => ?_⟩
    simp only [spec_l6Mean.l0]
    rw [hmin, if_neg (by omega), if_neg (by omega), hC]
    rfl
  | succ d ih =>
    intro Y C s hY hC
    have hC' : C + nearMany x wd + d * nearMany x wd = nearMany y hg * nearMany x wd := by rw [Nat.add_mul, Nat.one_mul] at hC; omega
    have := mean_inner l hl hw hh hx (show Y < hg from near_lt hy (by omega)) _ (nearMany x wd) (nearLo x) C s rfl (by omega) (ih (Y + 1) (C + nearMany x wd) (rowSum l wd Y (nearLo x) (nearMany x wd) s) (by omega) hC')
    refine Ev.step (fun k => ?_) this
    simp only [spec_l6Mean.l0]
    rw [hmin, hmax, if_pos (by omega)]
theorem spec_l6Mean_ev (l : List Pix) {wd hg x y : Nat} (hl : l.length = wd * hg) (hw : wd ≤ 6) (hh : hg ≤ 6) (hx : x < wd) (hy : y < hg) :
    Ev (fun k => spec_l6Mean.f k wd hg l x y) ((blurP l wd hg x y).f0, (blurP l wd hg x y).f1, (blurP l wd hg x y).f2, (blurP l wd hg x y).f3) := by
  have h := mean_outer l hl hw hh hx hy (nearMany y hg) (nearLo y) 0 z36 rfl (by omega)
  have hmax : mx 0 (wrap64 ((y : Int) - 1)) = ((nearLo y : Nat) : Int) := by
    rw [wrap_id (x := (y : Int) - 1) (by omega) (by omega), (mnmx _ _).2]
    unfold nearLo
    split <;> omega
  refine Ev.congr (fun k => ?_) h
  show spec_l6Mean.f k wd hg l x y = _
  unfold spec_l6Mean.f
  rw [hmax]
  rfl
theorem each_ev {wd hg : Nat} {l : List Pix} (hv : Valid wd hg l) (o0 o1 o2 o3 o4 : Int) (F : Nat → Nat → Pix)
    (hstep : ∀ i (s : List Pix) r, i < l.length → s.length = i → Ev (fun k => spec_l6Each.l0 k ((i + 1 : Nat) : Int) wd hg l o0 o1 o2 o3 o4 wd hg (s ++ [F (i % wd) (i / wd)])) r → Ev (fun k => spec_l6Each.l0 k (i : Int) wd hg l o0 o1 o2 o3 o4 wd hg s) r) :
    Ev (fun k => spec_l6Each.f k wd hg l o0 o1 o2 o3 o4) ((wd : Int), (hg : Int), mk wd hg F) := by
  obtain ⟨hw, hh, hl, -⟩ := hv
  have hle : wd * hg ≤ 6 * 6 := Nat.mul_le_mul hw.2 hh.2
  have := ev_line l.length (fun i => F (i % wd) (i / wd)) (fun k i s => spec_l6Each.l0 k i wd hg l o0 o1 o2 o3 o4 wd hg s) ((wd : Int), (hg : Int), mk wd hg F) (by omega) hstep ?_
  · exact this
  · refine ev_succ ⟨0, fun k _ => ?_⟩
    simp only [spec_l6Each.l0]
    rw [if_neg (by omega), hl]
    rfl
theorem rd_at {l : List Pix} {wd i : Nat} : rd_T36 l (i : Int) = pix l wd (i % wd) (i / wd) := by
  unfold pix
  rw [show i / wd * wd + i % wd = i by rw [Nat.mul_comm]; exact Nat.div_add_mod i wd]
  rfl
theorem spec_gray_ev {wd hg : Nat} {l : List Pix} (hv : Valid wd hg l) (a b c d : Int) : Ev (fun k => spec_l6Each.f k wd hg l 5 a b c d) ((wd : Int), (hg : Int), eachM grayP wd hg l) := by
  refine each_ev hv 5 a b c d (fun x y => grayP (pix l wd x y)) ?_
  have hle : wd * hg ≤ 6 * 6 := Nat.mul_le_mul hv.1.2 hv.2.1.2
  have hl := hv.2.2.1
  intro i s r hi hs h
  refine Ev.step (fun k => ?_) h
  rw [spec_l6Each.l0, if_pos (by omega), if_pos rfl, if_pos (by omega), rd_at (wd := wd)]
  show (if s.length < 4398046511104 then _ else none) = _
  rw [if_pos (by omega), wadd1 (by omega)]
  rfl
theorem spec_flat_ev {wd hg : Nat} {l : List Pix} (hv : Valid wd hg l) (a b c d : Int) : Ev (fun k => spec_l6Each.f k wd hg l 8 a b c d) ((wd : Int), (hg : Int), eachM (flatP a b c) wd hg l) := by
  refine each_ev hv 8 a b c d (fun x y => flatP a b c (pix l wd x y)) ?_
  have hle : wd * hg ≤ 6 * 6 := Nat.mul_le_mul hv.1.2 hv.2.1.2
  have hl := hv.2.2.1
  intro i s r hi hs h
  refine Ev.step (fun k => ?_) h
  rw [spec_l6Each.l0, if_pos (by omega), if_neg (by decide), if_neg (by decide), if_pos (by omega), rd_at (wd := wd)]
  show (if s.length < 4398046511104 then _ else none) = _
  rw [if_pos (by omega), wadd1 (by omega)]
  rfl
theorem spec_blur_ev {wd hg : Nat} {l : List Pix} (hv : Valid wd hg l) (a b c d : Int) : Ev (fun k => spec_l6Each.f k wd hg l 6 a b c d) ((wd : Int), (hg : Int), mk wd hg (blurP l wd hg)) := by
  refine each_ev hv 6 a b c d (blurP l wd hg) ?_
  have hle : wd * hg ≤ 6 * 6 := Nat.mul_le_mul hv.1.2 hv.2.1.2
  have hl := hv.2.2.1
  intro i s r hi hs h
  have hmd := mod_div_lt (show i < wd * hg by omega)
  obtain ⟨K1, h1⟩ := spec_l6Mean_ev l hl hv.1.2 hv.2.1.2 hmd.1 hmd.2
  obtain ⟨K2, h2⟩ := h
  refine ⟨K1 + K2 + 1, fun n hn => ?_⟩
  obtain ⟨m, rfl⟩ : ∃ m, n = m + 1 := ⟨n - 1, by omega⟩
  have e1 := h1 m (by omega)
  have e2 := h2 m (by omega)
  dsimp only at e1 e2 ⊢
  have t1 : Int.tmod (i : Int) (wd : Int) = ((i % wd : Nat) : Int) := rfl
  rw [spec_l6Each.l0, if_pos (by omega), if_neg (by decide), if_pos rfl, if_neg (by have := hv.1.1; omega), t1, wdiv (by omega), e1]
  show (if s.length < 4398046511104 then _ else none) = _
  rw [if_pos (by omega), wadd1 (by omega)]
  exact e2
theorem spec_l6Do_ev {wd hg : Nat} {l : List Pix} (hv : Valid wd hg l) {o : Op} (ho : OkO o) :
    Ev (fun k => spec_l6Do.f k wd hg l o.f0 o.f1 o.f2 o.f3 o.f4) (if hasM o wd hg then ((wideM o wd hg : Int), (highM o wd hg : Int), picM o wd hg l, true) else (0, 0, [], false)) := by
  have hw := hv.1
  have hh := hv.2.1
  have hok := ho
  rcases ho with ⟨h0, b1, b2, b3, b4⟩ | ⟨h0, z1, z2, z3, z4⟩ | ⟨h0, b1, b2, z3, z4⟩ | ⟨h0, b1, b2, b3, z4⟩
  · have e1 : wrap64 (o.f1 + o.f3) = o.f1 + o.f3 := wrap_id (by omega) (by omega)
    have e2 : wrap64 (o.f2 + o.f4) = o.f2 + o.f4 := wrap_id (by omega) (by omega)
    by_cases hm : hasM o wd hg = true
    · have hc := hasM_crop hm h0
      obtain ⟨K, h⟩ := spec_l6Crop_ev hv o h0 hok hm
      refine ⟨K + 1, fun n hn => ?_⟩
      obtain ⟨m, rfl⟩ : ∃ m, n = m + 1 := ⟨n - 1, by omega⟩
      have := h m (by omega)
      dsimp only at this ⊢
      unfold spec_l6Do.f
      rw [if_pos h0, e1, e2, if_neg (by omega), if_pos hm]
      simp only [spec_l6Do.j0]
      rw [if_neg (by simp; omega), this]
      rfl
    · rw [if_neg hm]
      have hm' : ¬ (o.f1 + o.f3 ≤ wd ∧ o.f2 + o.f4 ≤ hg) := by
        intro hc
        apply hm
        unfold hasM
        rw [if_pos h0]
        simp [hc]
      refine ev_succ ⟨0, fun k _ => ?_⟩
      unfold spec_l6Do.f
      dsimp only
      rw [if_pos h0, e1, e2]
      by_cases hx : o.f1 + o.f3 > (wd : Int)
      · rw [if_pos hx]
        simp only [spec_l6Do.j0, if_true]
      · rw [if_neg hx]
        simp only [spec_l6Do.j0]
        rw [if_pos (by simp; omega)]
  · have hm : hasM o wd hg = true := by unfold hasM; rw [if_neg (by omega)]
    obtain ⟨a0, a1, a2, a3, a4⟩ := o
    dsimp only at h0 z1 z2 z3 z4 ⊢
    subst z1 z2 z3 z4
    rw [if_pos hm]
    have : a0 = 2 ∨ a0 = 3 ∨ a0 = 4 ∨ a0 = 5 ∨ a0 = 6 := by omega
    rcases this with rfl | rfl | rfl | rfl | rfl
    · obtain ⟨K, h⟩ := spec_l6FlipX_ev hv
      exact ⟨K, fun n hn => by have := h n hn; dsimp only at this ⊢; unfold spec_l6Do.f; rw [if_neg (by decide), if_pos rfl, this]; rfl⟩
    · obtain ⟨K, h⟩ := spec_l5Flip_ev hv
      exact ⟨K, fun n hn => by have := h n hn; dsimp only at this ⊢; unfold spec_l6Do.f; rw [if_neg (by decide), if_neg (by decide), if_pos rfl, this]; rfl⟩
    · obtain ⟨K, h⟩ := spec_l6Turn_ev hv
      exact ⟨K, fun n hn => by have := h n hn; dsimp only at this ⊢; unfold spec_l6Do.f; rw [if_neg (by decide), if_neg (by decide), if_neg (by decide), if_pos rfl, this]; rfl⟩
    · obtain ⟨K, h⟩ := spec_gray_ev hv 0 0 0 0
      exact ⟨K, fun n hn => by have := h n hn; dsimp only at this ⊢; unfold spec_l6Do.f; rw [if_neg (by decide), if_neg (by decide), if_neg (by decide), if_neg (by decide), if_neg (by decide), this]; rfl⟩
    · obtain ⟨K, h⟩ := spec_blur_ev hv 0 0 0 0
      exact ⟨K, fun n hn => by have := h n hn; dsimp only at this ⊢; unfold spec_l6Do.f; rw [if_neg (by decide), if_neg (by decide), if_neg (by decide), if_neg (by decide), if_neg (by decide), this]; rfl⟩
  · have hm : hasM o wd hg = true := by unfold hasM; rw [if_neg (by omega)]
    obtain ⟨a0, a1, a2, a3, a4⟩ := o
    dsimp only at h0 b1 b2 z3 z4 ⊢
    obtain ⟨A, rfl⟩ : ∃ n : Nat, a1 = n := ⟨a1.toNat, by omega⟩
    obtain ⟨B, rfl⟩ : ∃ n : Nat, a2 = n := ⟨a2.toNat, by omega⟩
    subst h0 z3 z4
    rw [if_pos hm]
    obtain ⟨K, h⟩ := spec_l6Size_ev hv (a := A) (b := B) (by omega) (by omega)
    exact ⟨K, fun n hn => by have := h n hn; dsimp only at this ⊢; unfold spec_l6Do.f; rw [if_neg (by decide), if_neg (by decide), if_neg (by decide), if_neg (by decide), if_pos rfl, this]; rfl⟩
  · have hm : hasM o wd hg = true := by unfold hasM; rw [if_neg (by omega)]
    obtain ⟨a0, a1, a2, a3, a4⟩ := o
    dsimp only at h0 b1 b2 b3 z4 ⊢
    subst h0 z4
    rw [if_pos hm]
    obtain ⟨K, h⟩ := spec_flat_ev hv a1 a2 a3 0
    exact ⟨K, fun n hn => by have := h n hn; dsimp only at this ⊢; unfold spec_l6Do.f; rw [if_neg (by decide), if_neg (by decide), if_neg (by decide), if_neg (by decide), if_neg (by decide), this]; rfl⟩
theorem spec_OpDo_ev (a b : Int) (l : List Pix) (o : Op) : Ev (fun k => spec_OpDo.f k a b l o.f0 o.f1 o.f2 o.f3 o.f4) (doI a b l o) := by
  obtain ⟨K1, h1⟩ := spec_RasOk_ev a b l
  have h2 := spec_OpOk_some o.f0 o.f1 o.f2 o.f3 o.f4
  cases hr : rasOkB a b l with
  | false =>
    refine ⟨K1, fun n hn => ?_⟩
    have := h1 n hn
    dsimp only at this ⊢
    unfold spec_OpDo.f doI
    rw [this, hr]
    rfl
  | true =>
    cases ho : okB o with
    | false =>
      refine ⟨K1, fun n hn => ?_⟩
      have := h1 n hn
      dsimp only at this ⊢
      unfold spec_OpDo.f doI
      rw [this, hr, h2, show opOkB o.f0 o.f1 o.f2 o.f3 o.f4 = false from ho, ho]
      rfl
    | true =>
      obtain ⟨wd, hg, rfl, rfl, hv⟩ := (rasOkB_iff a b l).1 hr
      obtain ⟨K2, h3⟩ := spec_l6Do_ev hv ((okB_iff o).1 ho)
      refine ⟨K1 + K2, fun n hn => ?_⟩
      have e1 := h1 n (by omega)
      have e3 := h3 n (by omega)
      dsimp only at e1 e3 ⊢
      unfold spec_OpDo.f doI
      rw [e1, hr, h2, show opOkB o.f0 o.f1 o.f2 o.f3 o.f4 = true from ho, ho, Int.toNat_natCast, Int.toNat_natCast]
      simp only [Option.bind_some, if_true, e3, Bool.true_and]
end Go.Proofs.Ytoifpgkfpdeglaa.X
namespace Go.Proofs.Ytoifpgkfpdeglaa.X
open Go.RowKit Go.Proofs.YtoifpgkfpdeglaaW.PrintWords Go.Proofs.Ytoifpgkfpdeglaa.Pl
set_option linter.unusedSimpArgs false

theorem bits_xor_nonneg (a b : Int) (ha : 0 ≤ a) (ha' : a < 4611686018427387904) (hb : 0 ≤ b) (hb' : b < 4611686018427387904) : 0 ≤ Go.bits .xor .i64 a b ∧ Go.bits .xor .i64 a b < 4611686018427387904 := by
  obtain ⟨m, rfl⟩ := Int.eq_ofNat_of_zero_le ha
  obtain ⟨n, rfl⟩ := Int.eq_ofNat_of_zero_le hb
  have h1 : m < 2 ^ 62 := by omega
  have h2 : n < 2 ^ 62 := by omega
  have hx : m ^^^ n < 2 ^ 62 := Nat.xor_lt_two_pow h1 h2
  have hm : m % 2 ^ 64 = m := Nat.mod_eq_of_lt (by omega)
  have hn : n % 2 ^ 64 = n := Nat.mod_eq_of_lt (by omega)
  have e : Go.bits .xor .i64 (m : Int) (n : Int) = ((m ^^^ n : Nat) : Int) := by
    have hb : (BitVec.ofNat 64 m ^^^ BitVec.ofNat 64 n).toNat = m ^^^ n := by rw [BitVec.toNat_xor, BitVec.toNat_ofNat, BitVec.toNat_ofNat, hm, hn]
    simp only [Go.bits, IntKind.bits, BitVec.ofInt_natCast]
    rw [IntKind.wrap_i64]
    change (((BitVec.ofNat 64 m ^^^ BitVec.ofNat 64 n).toNat : Int) + 9223372036854775808) % 18446744073709551616 - 9223372036854775808 = _
    rw [hb]
    omega
  rw [e]
  omega

/-- The bytes of a code. -/
def Bytes (l : List Int) : Prop := l.length ≤ 2000 ∧ ∀ y ∈ l, 0 ≤ y ∧ y ≤ 255
theorem bytes_rd {l : List Int} (h : Bytes l) (i : Int) : 0 ≤ rd l i ∧ rd l i ≤ 255 := by
  unfold rd
  by_cases hi : i.toNat < l.length
  · exact h.2 _ (getD_mem l 0 i.toNat hi)
  · rw [List.getD_eq_getElem?_getD, List.getElem?_eq_none (by omega)]
    simp

theorem tmod_bd (a n : Int) (ha : 0 ≤ a) (hn : 0 < n) : 0 ≤ Int.tmod a n ∧ Int.tmod a n < n := by
  rw [Int.tmod_eq_emod_of_nonneg ha]
  exact ⟨Int.emod_nonneg _ (by omega), Int.emod_lt_of_pos _ hn⟩

theorem pick_ev (l : List Int) (hl : Bytes l) (p n : Int) (h0 : 0 ≤ p) (h1 : p ≤ 1000000000000) :
    ∃ r, Ev (fun k => spec_l20Rd_pick.f k l p n) (r, p + 1) ∧ 0 ≤ r ∧ (1 ≤ n → r < n) ∧ (n < 1 → r = 0) := by
  have w1 : wrap64 (p + 1) = p + 1 := wrap_id (by omega) (by omega)
  have w2 : wrap64 (p + 1 - 1) = p := by rw [show p + 1 - 1 = p by omega]; exact wrap_id (by omega) (by omega)
  by_cases hn : n < 1
  · refine ⟨0, ev_succ ⟨0, fun k _ => ?_⟩, by omega, fun h => absurd h (by omega), fun _ => rfl⟩
    simp [spec_l20Rd_pick.f, hn, spec_l20Rd_pick.j0, w1]
  have hne : ¬ (n = 0) := by omega
  by_cases hz : l.length = 0
  · refine ⟨0, ev_succ ⟨0, fun k _ => ?_⟩, by omega, fun h => by omega, fun h => absurd h hn⟩
    simp [spec_l20Rd_pick.f, hn, hz, spec_l20Rd_pick.j0, w1]
  have hz' : ¬ ((l.length : Int) = 0) := by omega
  have hzb : ((l.length : Int) == 0) = false := by simpa using hz
  by_cases hlt : p < (l.length : Int)
  · have hb := bytes_rd hl p
    have w3 : wrap64 (rd l p) = rd l p := wrap_id (by omega) (by omega)
    have ht := tmod_bd (rd l p) n hb.1 (by omega)
    refine ⟨Int.tmod (rd l p) n, ev_succ ⟨0, fun k _ => ?_⟩, ht.1, fun _ => ht.2, fun h => absurd h hn⟩
    simp only [spec_l20Rd_pick.f]
    rw [if_neg hn, hzb, w1]
    simp only [spec_l20Rd_pick.j0]
    rw [if_neg (by decide), w2, if_pos hlt, if_pos h0, if_neg hne, w3]
  · have L0 : (0 : Int) < (l.length : Int) := by omega
    have m1 := tmod_bd p (l.length : Int) h0 L0
    have w4 : wrap64 (p * 7) = p * 7 := wrap_id (by omega) (by omega)
    have w5 : wrap64 (p * 7 + 3) = p * 7 + 3 := wrap_id (by omega) (by omega)
    have m2 := tmod_bd (p * 7 + 3) (l.length : Int) (by omega) L0
    obtain ⟨i1, hi1⟩ : ∃ i, i = Int.tmod p (l.length : Int) := ⟨_, rfl⟩
    obtain ⟨i2, hi2⟩ : ∃ i, i = Int.tmod (p * 7 + 3) (l.length : Int) := ⟨_, rfl⟩
    have b1 := bytes_rd hl i1
    have b2 := bytes_rd hl i2
    obtain ⟨v1, hv1⟩ : ∃ v, v = rd l i1 := ⟨_, rfl⟩
    obtain ⟨v2, hv2⟩ : ∃ v, v = rd l i2 := ⟨_, rfl⟩
    have d1 : 0 ≤ Int.tdiv p (l.length : Int) ∧ Int.tdiv p (l.length : Int) ≤ p := by
      rw [Int.tdiv_eq_ediv_of_nonneg h0]
      exact ⟨Int.ediv_nonneg h0 (by omega), Int.ediv_le_self _ h0⟩
    obtain ⟨q, hq⟩ : ∃ q, q = Int.tdiv p (l.length : Int) := ⟨_, rfl⟩
    rw [← hi1] at m1
    rw [← hi2] at m2
    rw [← hv1] at b1
    rw [← hv2] at b2
    rw [← hq] at d1
    have x1 : wrap64 v1 = v1 := wrap_id (by omega) (by omega)
    have x2 : wrap64 v2 = v2 := wrap_id (by omega) (by omega)
    have x3 : wrap64 (v1 * 131) = v1 * 131 := wrap_id (by omega) (by omega)
    have x4 : wrap64 (v2 * 1117) = v2 * 1117 := wrap_id (by omega) (by omega)
    have x5 : wrap64 (v1 * 131 + v2 * 1117) = v1 * 131 + v2 * 1117 := wrap_id (by omega) (by omega)
    have x6 : wrap64 (p * 29) = p * 29 := wrap_id (by omega) (by omega)
    have x7 : wrap64 (v1 * 131 + v2 * 1117 + p * 29) = v1 * 131 + v2 * 1117 + p * 29 := wrap_id (by omega) (by omega)
    have x8 : wrap64 q = q := wrap_id (by omega) (by omega)
    have x9 : wrap64 (q * 53) = q * 53 := wrap_id (by omega) (by omega)
    have x10 : wrap64 (v1 * 131 + v2 * 1117 + p * 29 + q * 53) = v1 * 131 + v2 * 1117 + p * 29 + q * 53 := wrap_id (by omega) (by omega)
    obtain ⟨s, hs⟩ : ∃ s, s = v1 * 131 + v2 * 1117 + p * 29 + q * 53 := ⟨_, rfl⟩
    have hs0 : 0 ≤ s := by omega
    have hs1 : s ≤ 1000000000000000 := by omega
    have x11 : wrap64 (Int.tdiv s 64) = s / 64 := by
      rw [Int.tdiv_eq_ediv_of_nonneg hs0]
      exact wrap_id (by omega) (by omega)
    have hx := bits_xor_nonneg s (s / 64) hs0 (by omega) (by omega) (by omega)
    have ht := tmod_bd (Go.bits .xor .i64 s (s / 64)) n hx.1 (by omega)
    refine ⟨Int.tmod (Go.bits .xor .i64 s (s / 64)) n, ev_succ ⟨0, fun k _ => ?_⟩, ht.1, fun _ => ht.2, fun h => absurd h hn⟩
    simp only [spec_l20Rd_pick.f]
    rw [if_neg hn, hzb, w1]
    simp only [spec_l20Rd_pick.j0]
    rw [if_neg (by decide), w2, if_neg hlt, if_neg hz', w4, w5, ← hi1, ← hi2, if_pos m1.1, if_pos m1.2, if_pos m2.1, if_pos m2.2, if_neg hne, ← hv1, ← hv2, ← hq]
    simp only [x1, x2, x3, x4, x5, x6, x7, x8, x9, x10]
    rw [← hs, x11]

theorem odd_ev (l : List Int) (hl : Bytes l) (p n : Int) (h0 : 0 ≤ p) (h1 : p ≤ 1000000000000) (hn : n ≤ 1000000) :
    ∃ b q, Ev (fun k => spec_l20Rd_odd.f k l p n) (b, q) ∧ p ≤ q ∧ q ≤ p + 1 ∧ (n ≤ 0 → b = false) := by
  by_cases hn0 : n > 0
  · obtain ⟨r, ⟨K, hr⟩, _, _, _⟩ := pick_ev l hl p n h0 h1
    refine ⟨r == wrap64 (n - 1), p + 1, ⟨K, fun k hk => ?_⟩, by omega, by omega, fun h => absurd h (by omega)⟩
    have := hr k hk
    dsimp only at this
    simp [spec_l20Rd_odd.f, hn0, this]
  · refine ⟨false, p, ⟨0, fun k _ => ?_⟩, by omega, by omega, fun _ => rfl⟩
    simp [spec_l20Rd_odd.f, hn0]

theorem pick_tot {l : List Int} (hl : Bytes l) (p n : Int) (h0 : 0 ≤ p) (h1 : p ≤ 1000000000000) :
    Tot (fun k => spec_l20Rd_pick.f k l p n) (fun x => x.2 = p + 1 ∧ 0 ≤ x.1 ∧ (1 ≤ n → x.1 < n) ∧ (n < 1 → x.1 = 0)) := by
  obtain ⟨r, h, a, b, c⟩ := pick_ev l hl p n h0 h1
  exact ⟨_, h, rfl, a, b, c⟩
theorem odd_tot {l : List Int} (hl : Bytes l) (p n : Int) (h0 : 0 ≤ p) (h1 : p ≤ 1000000000000) (hn : n ≤ 1000000) :
    Tot (fun k => spec_l20Rd_odd.f k l p n) (fun x => p ≤ x.2 ∧ x.2 ≤ p + 1 ∧ (n ≤ 0 → x.1 = false)) := by
  obtain ⟨b, q, h, c⟩ := odd_ev l hl p n h0 h1 hn
  exact ⟨_, h, c⟩
theorem open_some (l : List Int) (hu : ∀ y ∈ l, 0 ≤ y ∧ y ≤ 255) : ∃ b, spec_l20Open.f l = some (b, 0) ∧ Bytes b := by
  unfold spec_l20Open.f
  by_cases h : (l.length : Int) > 2000
  · rw [if_pos h, if_pos (by omega)]
    refine ⟨l.take 2000, rfl, ?_, fun y hy => hu y (List.mem_of_mem_take hy)⟩
    rw [List.length_take]
    omega
  · rw [if_neg h]
    exact ⟨l, rfl, by omega, hu⟩
end Go.Proofs.Ytoifpgkfpdeglaa.X
namespace Go.Proofs.Ytoifpgkfpdeglaa.X
open Go.RowKit Go.Proofs.YtoifpgkfpdeglaaW.PrintWords Go.Proofs.Ytoifpgkfpdeglaa.Pl
set_option linter.unusedSimpArgs false
set_option linter.unusedVariables false

theorem l20Op_j0_tot {l : List Int} (hl : Bytes l) (n p o a b c d : Int) (h0 : 0 ≤ p) (h1 : p ≤ 900000000000) (hn : n ≤ 1000) :
    Tot (fun k => spec_l20Op.j0 k n l p o a b c d) (fun x => p ≤ x.2.2.2.2.2 ∧ x.2.2.2.2.2 ≤ p + 3) := by
  refine Tot.succ ?_
  simp only [spec_l20Op.j0]
  refine Tot.bind (odd_tot hl p n h0 (by omega) (by omega)) ?_
  rintro ⟨b1, p1⟩ ⟨e1, e2, -⟩
  dsimp only at e1 e2 ⊢
  refine Tot.ite ?_ ?_ <;> intro hb
  · refine Tot.bind (pick_tot hl p1 4 (by omega) (by omega)) ?_
    rintro ⟨r2, p2⟩ ⟨e3, e4, e5, -⟩
    dsimp only at e3 e4 e5 ⊢
    refine Tot.ite ?_ ?_ <;> intro h
    all_goals try (refine Tot.ite ?_ ?_ <;> intro h')
    all_goals try (refine Tot.ite ?_ ?_ <;> intro h'')
    all_goals
      refine Tot.some_bind ?_
      refine Tot.bind (pick_tot hl p2 2 (by omega) (by omega)) ?_
      rintro ⟨r3, p3⟩ ⟨e6, e7, e8, -⟩
      dsimp only at e6 e7 e8 ⊢
      refine Tot.pos e7 (Tot.pos ?_ (Tot.ret ?_))
      · simp only [List.length_cons, List.length_nil]; omega
      · dsimp only; omega
  · exact Tot.ret (by dsimp only; omega)

theorem l20Op_tot {l : List Int} (hl : Bytes l) (p n : Int) (h0 : 0 ≤ p) (h1 : p ≤ 800000000000) (hn : n ≤ 1000) :
    Tot (fun k => spec_l20Op.f k l p n) (fun x => p ≤ x.2.2.2.2.2 ∧ x.2.2.2.2.2 ≤ p + 8) := by
  simp only [spec_l20Op.f]
  refine Tot.bind (pick_tot hl p 8 h0 (by omega)) ?_
  rintro ⟨r0, p0⟩ ⟨e1, e2, e3, -⟩
  dsimp only at e1 e2 e3 ⊢
  refine Tot.ite ?_ ?_ <;> intro h
  · refine Tot.bind (pick_tot hl p0 3 (by omega) (by omega)) ?_
    rintro ⟨r4, p4⟩ ⟨e4, -, -, -⟩
    dsimp only at e4 ⊢
    refine Tot.bind (pick_tot hl p4 3 (by omega) (by omega)) ?_
    rintro ⟨r5, p5⟩ ⟨e5, -, -, -⟩
    dsimp only at e5 ⊢
    refine Tot.bind (pick_tot hl p5 4 (by omega) (by omega)) ?_
    rintro ⟨r6, p6⟩ ⟨e6, -, -, -⟩
    dsimp only at e6 ⊢
    refine Tot.bind (pick_tot hl p6 4 (by omega) (by omega)) ?_
    rintro ⟨r7, p7⟩ ⟨e7, -, -, -⟩
    dsimp only at e7 ⊢
    exact (l20Op_j0_tot hl n p7 _ _ _ _ _ (by omega) (by omega) hn).mono (fun x hx => by omega)
  refine Tot.ite ?_ ?_ <;> intro h
  · refine Tot.bind (pick_tot hl p0 6 (by omega) (by omega)) ?_
    rintro ⟨r4, p4⟩ ⟨e4, -, -, -⟩
    dsimp only at e4 ⊢
    refine Tot.bind (pick_tot hl p4 6 (by omega) (by omega)) ?_
    rintro ⟨r5, p5⟩ ⟨e5, -, -, -⟩
    dsimp only at e5 ⊢
    exact (l20Op_j0_tot hl n p5 _ _ _ _ _ (by omega) (by omega) hn).mono (fun x hx => by omega)
  refine Tot.ite ?_ ?_ <;> intro h
  · refine Tot.bind (pick_tot hl p0 256 (by omega) (by omega)) ?_
    rintro ⟨r4, p4⟩ ⟨e4, -, -, -⟩
    dsimp only at e4 ⊢
    refine Tot.bind (pick_tot hl p4 256 (by omega) (by omega)) ?_
    rintro ⟨r5, p5⟩ ⟨e5, -, -, -⟩
    dsimp only at e5 ⊢
    refine Tot.bind (pick_tot hl p5 256 (by omega) (by omega)) ?_
    rintro ⟨r6, p6⟩ ⟨e6, -, -, -⟩
    dsimp only at e6 ⊢
    exact (l20Op_j0_tot hl n p6 _ _ _ _ _ (by omega) (by omega) hn).mono (fun x hx => by omega)
  · exact (l20Op_j0_tot hl n p0 _ _ _ _ _ (by omega) (by omega) hn).mono (fun x hx => by omega)

end Go.Proofs.Ytoifpgkfpdeglaa.X
namespace Go.Proofs.Ytoifpgkfpdeglaa.X
open Go.RowKit Go.Proofs.YtoifpgkfpdeglaaW.PrintWords Go.Proofs.Ytoifpgkfpdeglaa.Pl
set_option linter.unusedSimpArgs false
set_option linter.unusedVariables false
theorem l20Pix_tot {l : List Int} (hl : Bytes l) (p : Int) (h0 : 0 ≤ p) (h1 : p ≤ 900000000000) : Tot (fun k => spec_l20Pix.f k l p) (fun x => p ≤ x.2.2.2.2 ∧ x.2.2.2.2 ≤ p + 10) := by
  simp only [spec_l20Pix.f]
  refine Tot.bind (pick_tot hl p 256 h0 (by omega)) ?_
  rintro ⟨r0, p0⟩ ⟨e0, -, -, -⟩
  dsimp only at e0 ⊢
  refine Tot.some_bind ?_
  refine Tot.bind (pick_tot hl p0 3 (by omega) (by omega)) ?_
  rintro ⟨r1, p1⟩ ⟨e1, a1, b1, -⟩
  dsimp only at e1 a1 b1 ⊢
  refine Tot.pos a1 (Tot.pos (by simp only [List.length_cons, List.length_nil]; omega) ?_)
  refine Tot.bind (pick_tot hl p1 256 (by omega) (by omega)) ?_
  rintro ⟨r2, p2⟩ ⟨e2, -, -, -⟩
  dsimp only at e2 ⊢
  refine Tot.some_bind ?_
  refine Tot.bind (pick_tot hl p2 2 (by omega) (by omega)) ?_
  rintro ⟨r3, p3⟩ ⟨e3, a3, b3, -⟩
  dsimp only at e3 a3 b3 ⊢
  refine Tot.pos a3 (Tot.pos (by simp only [List.length_cons, List.length_nil]; omega) ?_)
  refine Tot.bind (pick_tot hl p3 256 (by omega) (by omega)) ?_
  rintro ⟨r4, p4⟩ ⟨e4, -, -, -⟩
  dsimp only at e4 ⊢
  refine Tot.some_bind ?_
  refine Tot.bind (pick_tot hl p4 2 (by omega) (by omega)) ?_
  rintro ⟨r5, p5⟩ ⟨e5, a5, b5, -⟩
  dsimp only at e5 a5 b5 ⊢
  refine Tot.pos a5 (Tot.pos (by simp only [List.length_cons, List.length_nil]; omega) ?_)
  refine Tot.bind (pick_tot hl p5 256 (by omega) (by omega)) ?_
  rintro ⟨r6, p6⟩ ⟨e6, -, -, -⟩
  dsimp only at e6 ⊢
  refine Tot.some_bind ?_
  refine Tot.bind (pick_tot hl p6 4 (by omega) (by omega)) ?_
  rintro ⟨r7, p7⟩ ⟨e7, a7, b7, -⟩
  dsimp only at e7 a7 b7 ⊢
  refine Tot.pos a7 (Tot.pos (by simp only [List.length_cons, List.length_nil]; omega) (Tot.ret ?_))
  dsimp only
  omega
theorem l20Ras_l0_tot {l : List Int} (hl : Bytes l) (n w h : Int) (hw : 1 ≤ w ∧ w ≤ 6) (hh : 1 ≤ h ∧ h ≤ 6) (hn : n ≤ 1000) (P : Int) (hP : P ≤ 700000000000) : ∀ s : Int × Int × List Pix × Pix, (0 ≤ s.1 ∧ s.1 ≤ w * h ∧ s.2.2.1.length = s.1.toNat ∧ 0 ≤ s.2.1 ∧ s.2.1 + 20 * (w * h - s.1) ≤ P) →
    Tot (fun k => spec_l20Ras.l0 k n s.1 l s.2.1 w h s.2.2.1 s.2.2.2.f0 s.2.2.2.f1 s.2.2.2.f2 s.2.2.2.f3) (fun x => x.2.2.1.length ≤ 100 ∧ 0 ≤ x.2.2.2 ∧ x.2.2.2 ≤ P + 20) := by
  have hm1 : w * h ≤ 36 := by
    have : w * h ≤ 6 * 6 := Int.mul_le_mul hw.2 hh.2 (by omega) (by omega)
    omega
  have hm0 : 1 ≤ w * h := by
    have : (1 : Int) * 1 ≤ w * h := Int.mul_le_mul hw.1 hh.1 (by omega) (by omega)
    omega
  have hwr : wrap64 (w * h) = w * h := wrap_id (by omega) (by omega)
  obtain ⟨m, hm⟩ : ∃ m, m = w * h := ⟨_, rfl⟩
  rw [← hm] at hm0 hm1
  refine tot_ind (fun k (s : Int × Int × List Pix × Pix) => spec_l20Ras.l0 k n s.1 l s.2.1 w h s.2.2.1 s.2.2.2.f0 s.2.2.2.f1 s.2.2.2.f2 s.2.2.2.f3) _ (fun s => (m - s.1).toNat) _ ?_
  rintro ⟨i, p, s, z⟩ ⟨i1, i2, i3, i4, i5⟩ ih
  dsimp only at i1 i2 i3 i4 i5 ⊢
  rw [← hm] at i2 i5
  refine Tot.succ ?_
  simp only [spec_l20Ras.l0, hwr]
  rw [← hm]
  refine Tot.ite ?_ ?_ <;> intro hc
  · have hw1 : wrap64 (i + 1) = i + 1 := wrap_id (by omega) (by omega)
    refine Tot.bind (pick_tot hl p 3 (by omega) (by omega)) ?_
    rintro ⟨r0, p0⟩ ⟨e0, -, -, -⟩
    dsimp only at e0 ⊢
    rw [hw1]
    refine Tot.ite ?_ ?_ <;> intro hd
    · refine Tot.bind (l20Pix_tot hl p0 (by omega) (by omega)) ?_
      rintro ⟨c0, c1, c2, c3, p1⟩ ⟨e1, e2⟩
      dsimp only at e1 e2 ⊢
      refine Tot.pos (by omega) ?_
      exact ih (i + 1, p1, s ++ [⟨c0, c1, c2, c3⟩], ⟨c0, c1, c2, c3⟩) (by dsimp only; rw [← hm, List.length_append]; simp only [List.length_cons, List.length_nil]; omega) (by dsimp only; omega)
    · refine Tot.pos (by omega) ?_
      exact ih (i + 1, p0, s ++ [⟨z.f0, z.f1, z.f2, z.f3⟩], z) (by dsimp only; rw [← hm, List.length_append]; simp only [List.length_cons, List.length_nil]; omega) (by dsimp only; omega)
  · have hi : i = m := by omega
    have hlen : (s.length : Int) = m := by omega
    refine Tot.bind (odd_tot hl p n (by omega) (by omega) (by omega)) ?_
    rintro ⟨b1, p1⟩ ⟨e1, e2, -⟩
    dsimp only at e1 e2 ⊢
    refine Tot.ite ?_ ?_ <;> intro hb
    · refine Tot.bind (pick_tot hl p1 4 (by omega) (by omega)) ?_
      rintro ⟨r2, p2⟩ ⟨e3, -, -, -⟩
      dsimp only at e3 ⊢
      refine Tot.ite ?_ ?_ <;> intro hd
      · refine Tot.some_bind ?_
        refine Tot.bind (pick_tot hl p2 4 (by omega) (by omega)) ?_
        rintro ⟨r3, p3⟩ ⟨e4, a4, b4, -⟩
        dsimp only at e4 a4 b4 ⊢
        exact Tot.pos a4 (Tot.pos (by simp only [List.length_cons, List.length_nil]; omega) (Tot.ret ⟨by dsimp only; omega, by dsimp only; omega, by dsimp only; omega⟩))
      refine Tot.ite ?_ ?_ <;> intro hd
      · refine Tot.some_bind ?_
        refine Tot.bind (pick_tot hl p2 2 (by omega) (by omega)) ?_
        rintro ⟨r3, p3⟩ ⟨e4, a4, b4, -⟩
        dsimp only at e4 a4 b4 ⊢
        exact Tot.pos a4 (Tot.pos (by simp only [List.length_cons, List.length_nil]; omega) (Tot.ret ⟨by dsimp only; omega, by dsimp only; omega, by dsimp only; omega⟩))
      refine Tot.ite ?_ ?_ <;> intro hd
      · exact Tot.pos (by omega) (Tot.ret ⟨by dsimp only; rw [List.length_drop]; omega, by dsimp only; omega, by dsimp only; omega⟩)
      · refine Tot.bind (pick_tot hl p2 (s.length : Int) (by omega) (by omega)) ?_
        rintro ⟨r3, p3⟩ ⟨e4, a4, b4, -⟩
        dsimp only at e4 a4 b4 ⊢
        refine Tot.some_bind ?_
        refine Tot.bind (pick_tot hl p3 2 (by omega) (by omega)) ?_
        rintro ⟨r4, p4⟩ ⟨e5, a5, b5, -⟩
        dsimp only at e5 a5 b5 ⊢
        exact Tot.pos a5 (Tot.pos (by simp only [List.length_cons, List.length_nil]; omega) (Tot.pos a4 (Tot.pos (by omega) (Tot.ret ⟨by dsimp only; rw [List.length_set]; omega, by dsimp only; omega, by dsimp only; omega⟩))))
    · exact Tot.ret ⟨by dsimp only; omega, by dsimp only; omega, by dsimp only; omega⟩
theorem l20Ras_tot {l : List Int} (hl : Bytes l) (p n : Int) (h0 : 0 ≤ p) (h1 : p ≤ 600000000000) (hn : n ≤ 1000) : Tot (fun k => spec_l20Ras.f k l p n) (fun x => x.2.2.1.length ≤ 100 ∧ 0 ≤ x.2.2.2 ∧ x.2.2.2 ≤ p + 1000) := by
  simp only [spec_l20Ras.f]
  refine Tot.bind (pick_tot hl p 6 h0 (by omega)) ?_
  rintro ⟨r0, p0⟩ ⟨e0, a0, b0, -⟩
  dsimp only at e0 a0 b0 ⊢
  refine Tot.bind (pick_tot hl p0 6 (by omega) (by omega)) ?_
  rintro ⟨r1, p1⟩ ⟨e1, a1, b1, -⟩
  dsimp only at e1 a1 b1 ⊢
  refine Tot.bind (l20Pix_tot hl p1 (by omega) (by omega)) ?_
  rintro ⟨c0, c1, c2, c3, p2⟩ ⟨e2, e3⟩
  dsimp only at e2 e3 ⊢
  have w0 : wrap64 (1 + r0) = 1 + r0 := wrap_id (by omega) (by omega)
  have w1 : wrap64 (1 + r1) = 1 + r1 := wrap_id (by omega) (by omega)
  have hm : (1 + r0) * (1 + r1) ≤ 6 * 6 := Int.mul_le_mul (by omega) (by omega) (by omega) (by omega)
  have hm0 : (1 : Int) * 1 ≤ (1 + r0) * (1 + r1) := Int.mul_le_mul (by omega) (by omega) (by omega) (by omega)
  rw [w0, w1]
  exact (l20Ras_l0_tot hl n (1 + r0) (1 + r1) (by omega) (by omega) hn (p2 + 720) (by omega) (0, p2, [], ⟨c0, c1, c2, c3⟩) (by dsimp only [List.length_nil]; revert hm hm0; generalize (1 + r0) * (1 + r1) = q; intro hm hm0; omega)).mono (fun x hx => ⟨hx.1, hx.2.1, by omega⟩)
theorem drawOpDo_tot {l : List Int} (hu : ∀ y ∈ l, 0 ≤ y ∧ y ≤ 255) : Tot (fun k => spec_DrawOpDo.f k l) (fun x => x.2.2.1.length ≤ 100) := by
  simp only [spec_DrawOpDo.f]
  obtain ⟨b, e, hb⟩ := open_some l hu
  rw [e]
  refine Tot.some_bind ?_
  refine Tot.bind (l20Ras_tot hb 0 16 (by omega) (by omega) (by omega)) ?_
  rintro ⟨w, h, s, p⟩ ⟨h1, h2, h3⟩
  dsimp only at h1 h2 h3 ⊢
  refine Tot.bind (l20Op_tot hb p 9 (by omega) (by omega) (by omega)) ?_
  rintro ⟨o, a, b, c, d, q⟩ ⟨-, -⟩
  exact Tot.ret h1
end Go.Proofs.Ytoifpgkfpdeglaa.X
namespace Go.Proofs.Ytoifpgkfpdeglaa.X
open Go.RowKit Go.Proofs.YtoifpgkfpdeglaaW.PrintWords Go.Proofs.Ytoifpgkfpdeglaa.Pl
set_option linter.unusedSimpArgs false
set_option linter.unusedVariables false

theorem eaOk_some : laws_eaOk.f = some true := by
  unfold laws_eaOk.f impl_PixOk.f
  simp [partOk_some]
theorem eaRas_same (a b : Int) (l : List Pix) (hl : l.length ≤ 1048576) : Ev (fun k => laws_eaRas.f k a b l a b l) true := by
  have := ev_all l.length (fun k i => laws_eaRas.l0 k i a b l a b l) ?_ ?_
  · refine Ev.step (fun k => ?_) this
    unfold laws_eaRas.f
    rw [if_pos rfl, if_pos rfl, laws_eaRas.j0, if_neg (by simp)]
  · intro i hi h
    refine Ev.step (fun k => ?_) h
    rw [laws_eaRas.l0, if_pos (by omega), if_pos (by omega), if_pos (by omega), if_neg (by simp), wrap_succ (by omega)]
  · intro k
    rw [laws_eaRas.l0, if_neg (by omega)]
/-- All is done in order, whatever can be. -/
def eaI : List Op → Int → Int → List Pix → Int × Int × List Pix
  | [], a, b, l => (a, b, l)
  | o :: os, a, b, l => eaI os (doI a b l o).1 (doI a b l o).2.1 (doI a b l o).2.2.1
theorem drop_op {os : List Op} {i : Nat} (hi : i < os.length) : os.drop i = rd_T27 os (i : Int) :: os.drop (i + 1) := by
  rw [List.drop_eq_getElem_cons hi]
  unfold rd_T27
  rw [List.getD_eq_getElem?_getD, Int.toNat_natCast, List.getElem?_eq_getElem hi]
  rfl
theorem eaDo_ev (os : List Op) (hos : os.length ≤ 1000) (a b : Int) (l : List Pix) : Ev (fun k => laws_eaDo.f k a b l os) (eaI os a b l) := by
  have key : ∀ d i, i + d = os.length → ∀ a b l, Ev (fun k => laws_eaDo.l0 k os (i : Int) a b l) (eaI (os.drop i) a b l) := by
    intro d
    induction d with
    | zero =>
      intro i hi a b l
      refine ev_succ ⟨0, fun k _ => ?_⟩
      rw [List.drop_of_length_le (by omega)]
      show laws_eaDo.l0 (k + 1) os (i : Int) a b l = _
      rw [laws_eaDo.l0, if_neg (by omega)]
      rfl
    | succ d ih =>
      intro i hi a b l
      rw [drop_op (show i < os.length by omega)]
      refine Ev.step (fun k => ?_) (ih (i + 1) (by omega) (doI a b l (rd_T27 os (i : Int))).1 (doI a b l (rd_T27 os (i : Int))).2.1 (doI a b l (rd_T27 os (i : Int))).2.2.1)
      rw [laws_eaDo.l0, if_pos (by omega), if_pos (by omega), wrap_succ (by omega)]
      rfl
  exact key os.length 0 (by omega) a b l
theorem eaI_ok {wd hg : Nat} {l : List Pix} (hv : Valid wd hg l) {o : Op} (ho : OkO o) (hm : hasM o wd hg = true) (os : List Op) : eaI (o :: os) wd hg l = eaI os (wideM o wd hg) (highM o wd hg) (picM o wd hg l) := by
  have e : doI wd hg l o = ((wideM o wd hg : Int), (highM o wd hg : Int), picM o wd hg l, true) := by
    unfold doI
    rw [(rasOkB_iff _ _ _).2 ⟨wd, hg, rfl, rfl, hv⟩, (okB_iff o).2 ho, Int.toNat_natCast, Int.toNat_natCast, hm]
    rfl
  show eaI os (doI wd hg l o).1 (doI wd hg l o).2.1 (doI wd hg l o).2.2.1 = _
  rw [e]
theorem okTurn : OkO ⟨4, 0, 0, 0, 0⟩ := Or.inr (Or.inl ⟨by decide, rfl, rfl, rfl, rfl⟩)
theorem bytes_wf {l : List Int} (h : ∀ x ∈ l, (Lit.int .u8 x).wf = true) : ∀ y ∈ l, 0 ≤ y ∧ y ≤ 255 := by
  intro y hy
  have := h y hy
  simp [Lit.wf, IntKind.min, IntKind.max, IntKind.signed, IntKind.bits] at this
  omega
end Go.Proofs.Ytoifpgkfpdeglaa.X
