/- Lemmas and contracts for the law FnFormUp, part 5: of the program's functions, and over data alone. No condition. -/
import Derived.Test.YtljobjpldbdhoaaMFnFormUp2
import Derived.Test.YtljobjpldbdhoaaMFnFormUp3
import Derived.Test.YtljobjpldbdhoaaMFnFormUp4
import Derived.KernelRfl
namespace Go.Proofs.Ytljobjpldbdhoaa.X
open Go.RowKit Go.Proofs.YtljobjpldbdhoaaW.PrintWords Go.Proofs.YtljobjpldbdhoaaW.PrintLast Go.Proofs.YtljobjpldbdhoaaW.PrintMore
attribute [local go_sem] max2_int min2_int max_two min_two max_three min_three max_four min_four
set_option linter.unusedVariables false
set_option linter.unusedSimpArgs false

section
open Go.Proofs.YtljobjpldbdhoaaW.PrintWords.Aside0 renaming mk → yaa
open Go.Proofs.YtljobjpldbdhoaaW.PrintWords.Kd renaming R_reads' → yab, Q_apart' → yad, C_alloc → yag, C_drewN → yah, R_typed → yai, R_below → yaj, C_drew → yak, R_far → yam, Q_reads' → yao, Q_below → yaq, R_elder' → yar, Q_far → yas, Q_types → yat, R_base → yau, R_lower → yaw, R_slice → yax, R_new' → yay, R_lt → yaz, R_alloc → yba, R_drewN → ybb, R_types → ybc, R_drew → ybd, R_mono → ybe, Q_alloc → ybf, Q_drewN → ybg, Q_drew → ybi, Q_mono → ybj
open Go.Proofs.YtljobjpldbdhoaaW.PrintWords renaming pw_below_drewN → yac, below_alloc → yae, below_drew1 → yaf, below_set → yal, below_step → yan, below_size → yap, blk_below → yav, blk_frozen → ybh, blk_put → ybk

def laws_FnFormUp.f (k : Nat) (l0 : List Int) : Option (Bool) := if (l0.length : Int) > 1048576 then (some true) else ((spec_DrawFormWrite.f k l0).bind fun bt101 => ((impl_FormWrite.f k 85 bt101.2.1 bt101.2.2.1 bt101.2.2.2.1 bt101.2.2.2.2).bind fun t111 => ((spec_FormWrite.f k 85 bt101.2.1 bt101.2.2.1 bt101.2.2.2.1 bt101.2.2.2.2).bind fun t114 => ((laws_eaBytes.f t111 t114).bind fun t117 => (if t117 = true then (if (t111.length : Int) = 0 then ((spec_RasOk.f k bt101.2.2.1 bt101.2.2.2.1 bt101.2.2.2.2).bind fun t118 => (if t118 = true then (if (bt101.2.1.length : Int) > 9 then ((laws_eaOk.f).bind fun t119 => (some t119)) else (some false)) else ((laws_eaOk.f).bind fun t120 => (some t120)))) else ((laws_eaDo.f k bt101.2.2.1 bt101.2.2.2.1 bt101.2.2.2.2 (([(⟨3, 0, 0, 0, 0⟩ : S34)] : List (S34)))).bind fun bt124 => ((impl_FormWrite.f k 68 bt101.2.1 bt124.1 bt124.2.1 bt124.2.2).bind fun t129 => (if (t111.length : Int) = (t129.length : Int) then (if 1 ≤ (t111.length : Int) then (if 1 ≤ (t129.length : Int) then ((laws_eaBytes.f (t111.drop 1) (t129.drop 1)).bind fun t140 => (if t140 = true then (if 0 < (t111.length : Int) then (if (rd t111 0) = 85 then (if 0 < (t129.length : Int) then (some ((rd t129 0) == 68)) else (none)) else (some false)) else (none)) else (some false))) else (none)) else (none)) else (some false))))) else (some false))))))
set_option maxHeartbeats 8000000 in
set_option maxRecDepth 100000 in
theorem laws_FnFormUp.calls (k : Nat) (A0 : Option Addr) (c0 : Nat) (l0 : List Int) (r : Bool) (w : World) (hr0 : Kd.C (Kd.int .u8) w A0 l0.length l0) (hc0 : l0.length ≤ c0) (h : laws_FnFormUp.f k l0 = some r) (hrt : r = true) :
  Calls Try.prog 3 #[.slice A0 l0.length c0] w fun e w' => e = .returned (.bool r) ∧ Below w.heap.size w w' := by
 have hu25 := Try.underlying25; have hu34 := Try.underlying34; have HR0 := yaa hr0; have HC0 := yaa hc0; clear hr0 hc0; have HB := yaa (Below.refl w.heap.size w); have H : (if (l0.length : Int) > 1048576 then (some true) else ((spec_DrawFormWrite.f k l0).bind fun b8 => ((impl_FormWrite.f k 85 b8.2.1 b8.2.2.1 b8.2.2.2.1 b8.2.2.2.2).bind fun b0 => ((spec_FormWrite.f k 85 b8.2.1 b8.2.2.1 b8.2.2.2.1 b8.2.2.2.2).bind fun b9 => ((laws_eaBytes.f b0 b9).bind fun n7 => (if n7 = true then (if (b0.length : Int) = 0 then ((spec_RasOk.f k b8.2.2.1 b8.2.2.2.1 b8.2.2.2.2).bind fun n8 => (if n8 = true then (if (b8.2.1.length : Int) > 9 then ((laws_eaOk.f).bind fun k8 => (some k8)) else (some false)) else ((laws_eaOk.f).bind fun k9 => (some k9)))) else ((laws_eaDo.f k b8.2.2.1 b8.2.2.2.1 b8.2.2.2.2 (([(⟨3, 0, 0, 0, 0⟩ : S34)] : List (S34)))).bind fun l1 => ((impl_FormWrite.f k 68 b8.2.1 l1.1 l1.2.1 l1.2.2).bind fun b2 => (if (b0.length : Int) = (b2.length : Int) then (if 1 ≤ (b0.length : Int) then (if 1 ≤ (b2.length : Int) then ((laws_eaBytes.f (b0.drop 1) (b2.drop 1)).bind fun l2 => (if l2 = true then (if 0 < (b0.length : Int) then (if (rd b0 0) = 85 then (if 0 < (b2.length : Int) then (some ((rd b2 0) == 68)) else (none)) else (some false)) else (none)) else (some false))) else (none)) else (none)) else (some false))))) else (some false))))))) = some r := h; clear h
 by_cases c2 : (l0.length : Int) > 1048576
 ·
  rw [if_pos c2] at H
  have q1 : decide (1048576 < (l0.length : Int)) = true := decide_eq_true c2; have q2 : decide (1048576 < l0.length) = true := decide_eq_true (by omega); clear c2; obtain rfl := Option.some.inj H
  go_enter Try.func3, Try.ntmps3
  go_wp2
  repeat (go_quiet (fail); try go_wp2)
  go_ret
  exact ⟨by first | rfl | (simp [*, errW_none, errW_some] <;> rfl), upH HB.out⟩
 ·
  rw [if_neg c2] at H
  have q1 : decide (1048576 < (l0.length : Int)) = false := decide_eq_false c2; have q2 : decide (1048576 < l0.length) = false := decide_eq_false (by omega); clear c2; obtain ⟨⟨e3, b3, a7, a9, a8⟩, A3, H⟩ := bindA H; (try dsimp only at H); obtain ⟨b0, A4, H⟩ := bindA H; (try dsimp only at H); obtain ⟨b9, A5, H⟩ := bindA H; (try dsimp only at H); obtain ⟨n7, A6, H⟩ := bindA H; (try dsimp only at H)
  by_cases c7 : n7 = true
  ·
   subst c7
   rw [if_pos rfl] at H
   by_cases c8 : (b0.length : Int) = 0
   ·
    rw [if_pos c8] at H
    have q3 := beq_iff_eq.mpr c8; have q4 := bne_eq_false_iff_eq.mpr c8; clear c8; obtain ⟨n8, A9, H⟩ := bindA H; (try dsimp only at H)
    by_cases c10 : n8 = true
    ·
     subst c10
     rw [if_pos rfl] at H
     by_cases c11 : (b3.length : Int) > 9
     ·
      rw [if_pos c11] at H
      have n9 : decide (9 < (b3.length : Int)) = true := decide_eq_true c11; have o0 : decide (9 < b3.length) = true := decide_eq_true (by omega); clear c11; obtain ⟨k8, A12, H⟩ := bindA H; (try dsimp only at H); obtain rfl := Option.some.inj H
      go_enter Try.func3, Try.ntmps3
      go_wp2_with (first | (go_at_call 4; (with_reducible refine (spec_DrawFormWrite.calls k _ _ l0 e3 b3 a7 a9 a8 _ ?side1 ?side2 A3.out).mono ?_); (case side1 => repeat (first | exact HR0.out | (with_reducible refine yag ?_ _) | (with_reducible refine yah ?_ _) | (with_reducible refine yak ?_))); (case side2 => exact HC0.out); rintro e w13 ⟨e4, e5, rfl, ho0, ho1, hb⟩; have a2 := yaa (yaw ho0 (yap (upH HB.out))); have a3 := yaa (Kd.Q_lower ho1 (yap (upH HB.out))); replace HB := yaa (yan (upH HB.out) hb); (try clear hb ho0 ho1)) | ((with_reducible refine gd_ 5 rfl ?_); (try (refine gate_guard (by rfl) ?_; dsimp only)); refine bx_ 5 rfl #[.int .i64 0, .int .i64 0, .slice none 0 0] 25 ?_; intro a4 hg w14 hbox hb; replace a2 := yaa (yaj (upR a2.out) hb); replace a3 := yaa (yaq (upQ a3.out) hb); have a1 := yaa (hbox); have b4 := yaa ((by rw [hg]; exact (yap (upH HB.out)) : w.heap.size ≤ a4)); replace HB := yaa (yan (upH HB.out) hb); have e0 := b4; clear hb hbox hg; obtain ⟨f0, f1, f2⟩ := cc3_ a1.out; obtain ⟨f3, f4, f5⟩ := cf3_ a1.out; obtain ⟨d2, c3, l3, _⟩ := Kd.Q_slice a3.out; subst l3; obtain ⟨o1, l4, l5⟩ := yax a2.out; subst l5) | (go_at_call 5; (with_reducible refine (impl_FormWrite.calls k 85 _ _ b3 a7 a9 _ _ a8 b0 _ ?side1 ?side2 ?side3 ?side4 A4.out).mono ?_); (case side1 => refine (yab (e := 5) (base := w.heap.size) (ok := fun k_ => True) (n := b3.length) (c := l4) ?_).2.2; exact (by (with_reducible repeat (first | apply yba | apply ybb | apply ybd)); exact (ybe (yam (p := ⟨a4, 2, none⟩) (yam (p := ⟨a4, 1, none⟩) (yam (p := ⟨a4, 0, none⟩) (ybc a2.out a1.out (by decide)) (fun _ hk => hk.2) (.int .i64 a7)) (fun _ hk => hk.2) (.int .i64 a9)) (fun _ hk => hk.2) (.slice d2 a8.length c3)) (fun _ h_ => h_.1)))); (case side2 => exact (yab a2.out).2.1); (case side3 => refine (yao (e := 53) (base := w.heap.size) (ok := fun k_ => True) (n := a8.length) (c := c3) ?_).2.2; exact (by (with_reducible repeat (first | apply ybf | apply ybg | apply ybi)); exact (ybj (yas (p := ⟨a4, 2, none⟩) (yas (p := ⟨a4, 1, none⟩) (yas (p := ⟨a4, 0, none⟩) (yat a3.out a1.out (by decide)) (fun _ hk => hk.2) (.int .i64 a7)) (fun _ hk => hk.2) (.int .i64 a9)) (fun _ hk => hk.2) (.slice d2 a8.length c3)) (fun _ h_ => h_.1)))); (case side4 => exact (yao a3.out).2.1); rintro e w18 ⟨e7, rfl, ho0, hb⟩; replace a3 := yaa (yaq (by (with_reducible repeat (first | apply ybf | apply ybg | apply ybi)); exact (ybj (yas (p := ⟨a4, 2, none⟩) (yas (p := ⟨a4, 1, none⟩) (yas (p := ⟨a4, 0, none⟩) (yat a3.out a1.out (by decide)) (fun _ hk => hk.2) (.int .i64 a7)) (fun _ hk => hk.2) (.int .i64 a9)) (fun _ hk => hk.2) (.slice d2 a8.length c3)) (fun _ h_ => h_.1))) hb); have a5 := yaa (yaw (yay ho0 (yaz (by (with_reducible repeat (first | apply yba | apply ybb | apply ybd)); exact (ybe (yam (p := ⟨a4, 2, none⟩) (yam (p := ⟨a4, 1, none⟩) (yam (p := ⟨a4, 0, none⟩) (ybc a2.out a1.out (by decide)) (fun _ hk => hk.2) (.int .i64 a7)) (fun _ hk => hk.2) (.int .i64 a9)) (fun _ hk => hk.2) (.slice d2 a8.length c3)) (fun _ h_ => h_.1))))) (yap (by repeat (with_reducible first | exact HB.out | apply yae | apply yac | apply yaf | refine yal ?_ (Aside0.out ‹_›))))); replace a2 := yaa (yar (by (with_reducible repeat (first | apply yba | apply ybb | apply ybd)); exact (ybe (yam (p := ⟨a4, 2, none⟩) (yam (p := ⟨a4, 1, none⟩) (yam (p := ⟨a4, 0, none⟩) (ybc a2.out a1.out (by decide)) (fun _ hk => hk.2) (.int .i64 a7)) (fun _ hk => hk.2) (.int .i64 a9)) (fun _ hk => hk.2) (.slice d2 a8.length c3)) (fun _ h_ => h_.1))) (yau ho0) hb); replace a1 := yaa (yav (g := a4) (o := .cells #[.int .i64 a7, .int .i64 a9, .slice d2 a8.length c3] 25 (0, 0)) (by (repeat refine oneB ?_); refine ybk (cs := #[.int .i64 a7, .int .i64 a9, .slice none 0 0]) ?_ 2 _ rfl; refine ybk (cs := #[.int .i64 a7, .int .i64 0, .slice none 0 0]) ?_ 1 _ rfl; refine ybk (cs := #[.int .i64 0, .int .i64 0, .slice none 0 0]) ?_ 0 _ rfl; exact upB a1.out) hb); replace HB := yaa (yan (by repeat (with_reducible first | exact HB.out | apply yae | apply yac | apply yaf | refine yal ?_ (Aside0.out ‹_›))) hb); (try clear hb ho0); obtain ⟨f6, f7, f8⟩ := cc3_ a1.out; obtain ⟨f9, g0⟩ := cf2_ a1.out; have g1 := ybh a1.out 2) | (go_at_call 7; (with_reducible refine (spec_FormWrite.calls k 85 _ _ b3 a7 a9 _ _ a8 b9 _ ?side1 ?side2 ?side3 ?side4 A5.out).mono ?_); (case side1 => repeat (first | exact (yab a2.out).2.2 | (with_reducible refine yag ?_ _) | (with_reducible refine yah ?_ _) | (with_reducible refine yak ?_))); (case side2 => exact (yab a2.out).2.1); (case side3 => repeat (first | exact (yao a3.out).2.2 | (with_reducible refine yag ?_ _) | (with_reducible refine yah ?_ _) | (with_reducible refine yak ?_))); (case side4 => exact (yao a3.out).2.1); rintro e w20 ⟨e8, rfl, ho0, hb⟩; replace a3 := yaa (yaq (upQ a3.out) hb); have a6 := yaa (yaw (yay (yay ho0 (yaz (upR a2.out))) (yaz (upR a5.out))) (yap (by repeat (with_reducible first | exact HB.out | apply yae | apply yac | apply yaf | refine yal ?_ (Aside0.out ‹_›))))); replace a2 := yaa (yar (upR a2.out) (yau ho0) hb); replace a5 := yaa (yar (upR a5.out) (yau ho0) hb); replace a1 := yaa (yav (upB a1.out) hb); replace HB := yaa (yan (by repeat (with_reducible first | exact HB.out | apply yae | apply yac | apply yaf | refine yal ?_ (Aside0.out ‹_›))) hb); (try clear hb ho0); obtain ⟨o2, o3, l6⟩ := yax a5.out; subst l6; obtain ⟨o4, o5, l7⟩ := yax a6.out; subst l7) | (go_at_call 6; (with_reducible refine (laws_eaBytes.calls _ _ b0 _ _ b9 true _ ?side1 ?side2 ?side3 ?side4 A6.out).mono ?_); (case side1 => repeat (first | exact (yab a5.out).2.2 | (with_reducible refine yag ?_ _) | (with_reducible refine yah ?_ _) | (with_reducible refine yak ?_))); (case side2 => exact (yab a5.out).2.1); (case side3 => repeat (first | exact (yab a6.out).2.2 | (with_reducible refine yag ?_ _) | (with_reducible refine yah ?_ _) | (with_reducible refine yak ?_))); (case side4 => exact (yab a6.out).2.1); rintro e w' ⟨rfl, ⟨nd, rfl⟩⟩; (try first | exact ⟨rfl, _, World.drewN_drewN _ _ _⟩ | exact ⟨rfl, _, Eq.trans (World.drewN_drewN _ _ _) (congrArg (World.drewN _) (Nat.add_assoc _ _ _))⟩); obtain ⟨g2, g3, g4⟩ := cc3_ a1.out; obtain ⟨g5, g6⟩ := cf2_ a1.out; have g7 := ybh a1.out 2) | (go_at_call 8; (with_reducible refine (spec_RasOk.calls k a7 a9 _ _ a8 true _ ?side1 ?side2 A9.out).mono ?_); (case side1 => repeat (first | exact (yao a3.out).2.2 | (with_reducible refine yag ?_ _) | (with_reducible refine yah ?_ _) | (with_reducible refine yak ?_))); (case side2 => exact (yao a3.out).2.1); rintro e w24 ⟨rfl, hb⟩; replace a2 := yaa (yaj (upR a2.out) hb); replace a3 := yaa (yaq (upQ a3.out) hb); replace a5 := yaa (yaj (upR a5.out) hb); replace a6 := yaa (yaj (upR a6.out) hb); replace a1 := yaa (yav (upB a1.out) hb); replace HB := yaa (yan (by repeat (with_reducible first | exact HB.out | apply yae | apply yac | apply yaf | refine yal ?_ (Aside0.out ‹_›))) hb); (try clear hb)) | (go_at_call 9; (with_reducible refine (laws_eaOk.calls  k8 _ A12.out).mono ?_); rintro e w25 ⟨rfl, hb⟩; replace a2 := yaa (yaj (upR a2.out) hb); replace a3 := yaa (yaq (upQ a3.out) hb); replace a5 := yaa (yaj (upR a5.out) hb); replace a6 := yaa (yaj (upR a6.out) hb); replace a1 := yaa (yav (upB a1.out) hb); replace HB := yaa (yan (by repeat (with_reducible first | exact HB.out | apply yae | apply yac | apply yaf | refine yal ?_ (Aside0.out ‹_›))) hb); (try clear hb)))
      repeat (go_quiet (first | (go_at_call 4; (with_reducible refine (spec_DrawFormWrite.calls k _ _ l0 e3 b3 a7 a9 a8 _ ?side1 ?side2 A3.out).mono ?_); (case side1 => repeat (first | exact HR0.out | (with_reducible refine yag ?_ _) | (with_reducible refine yah ?_ _) | (with_reducible refine yak ?_))); (case side2 => exact HC0.out); rintro e w13 ⟨e4, e5, rfl, ho0, ho1, hb⟩; have a2 := yaa (yaw ho0 (yap (upH HB.out))); have a3 := yaa (Kd.Q_lower ho1 (yap (upH HB.out))); replace HB := yaa (yan (upH HB.out) hb); (try clear hb ho0 ho1)) | ((with_reducible refine gd_ 5 rfl ?_); (try (refine gate_guard (by rfl) ?_; dsimp only)); refine bx_ 5 rfl #[.int .i64 0, .int .i64 0, .slice none 0 0] 25 ?_; intro a4 hg w14 hbox hb; replace a2 := yaa (yaj (upR a2.out) hb); replace a3 := yaa (yaq (upQ a3.out) hb); have a1 := yaa (hbox); have b4 := yaa ((by rw [hg]; exact (yap (upH HB.out)) : w.heap.size ≤ a4)); replace HB := yaa (yan (upH HB.out) hb); have e0 := b4; clear hb hbox hg; obtain ⟨f0, f1, f2⟩ := cc3_ a1.out; obtain ⟨f3, f4, f5⟩ := cf3_ a1.out; obtain ⟨d2, c3, l3, _⟩ := Kd.Q_slice a3.out; subst l3; obtain ⟨o1, l4, l5⟩ := yax a2.out; subst l5) | (go_at_call 5; (with_reducible refine (impl_FormWrite.calls k 85 _ _ b3 a7 a9 _ _ a8 b0 _ ?side1 ?side2 ?side3 ?side4 A4.out).mono ?_); (case side1 => refine (yab (e := 5) (base := w.heap.size) (ok := fun k_ => True) (n := b3.length) (c := l4) ?_).2.2; exact (by (with_reducible repeat (first | apply yba | apply ybb | apply ybd)); exact (ybe (yam (p := ⟨a4, 2, none⟩) (yam (p := ⟨a4, 1, none⟩) (yam (p := ⟨a4, 0, none⟩) (ybc a2.out a1.out (by decide)) (fun _ hk => hk.2) (.int .i64 a7)) (fun _ hk => hk.2) (.int .i64 a9)) (fun _ hk => hk.2) (.slice d2 a8.length c3)) (fun _ h_ => h_.1)))); (case side2 => exact (yab a2.out).2.1); (case side3 => refine (yao (e := 53) (base := w.heap.size) (ok := fun k_ => True) (n := a8.length) (c := c3) ?_).2.2; exact (by (with_reducible repeat (first | apply ybf | apply ybg | apply ybi)); exact (ybj (yas (p := ⟨a4, 2, none⟩) (yas (p := ⟨a4, 1, none⟩) (yas (p := ⟨a4, 0, none⟩) (yat a3.out a1.out (by decide)) (fun _ hk => hk.2) (.int .i64 a7)) (fun _ hk => hk.2) (.int .i64 a9)) (fun _ hk => hk.2) (.slice d2 a8.length c3)) (fun _ h_ => h_.1)))); (case side4 => exact (yao a3.out).2.1); rintro e w18 ⟨e7, rfl, ho0, hb⟩; replace a3 := yaa (yaq (by (with_reducible repeat (first | apply ybf | apply ybg | apply ybi)); exact (ybj (yas (p := ⟨a4, 2, none⟩) (yas (p := ⟨a4, 1, none⟩) (yas (p := ⟨a4, 0, none⟩) (yat a3.out a1.out (by decide)) (fun _ hk => hk.2) (.int .i64 a7)) (fun _ hk => hk.2) (.int .i64 a9)) (fun _ hk => hk.2) (.slice d2 a8.length c3)) (fun _ h_ => h_.1))) hb); have a5 := yaa (yaw (yay ho0 (yaz (by (with_reducible repeat (first | apply yba | apply ybb | apply ybd)); exact (ybe (yam (p := ⟨a4, 2, none⟩) (yam (p := ⟨a4, 1, none⟩) (yam (p := ⟨a4, 0, none⟩) (ybc a2.out a1.out (by decide)) (fun _ hk => hk.2) (.int .i64 a7)) (fun _ hk => hk.2) (.int .i64 a9)) (fun _ hk => hk.2) (.slice d2 a8.length c3)) (fun _ h_ => h_.1))))) (yap (by repeat (with_reducible first | exact HB.out | apply yae | apply yac | apply yaf | refine yal ?_ (Aside0.out ‹_›))))); replace a2 := yaa (yar (by (with_reducible repeat (first | apply yba | apply ybb | apply ybd)); exact (ybe (yam (p := ⟨a4, 2, none⟩) (yam (p := ⟨a4, 1, none⟩) (yam (p := ⟨a4, 0, none⟩) (ybc a2.out a1.out (by decide)) (fun _ hk => hk.2) (.int .i64 a7)) (fun _ hk => hk.2) (.int .i64 a9)) (fun _ hk => hk.2) (.slice d2 a8.length c3)) (fun _ h_ => h_.1))) (yau ho0) hb); replace a1 := yaa (yav (g := a4) (o := .cells #[.int .i64 a7, .int .i64 a9, .slice d2 a8.length c3] 25 (0, 0)) (by (repeat refine oneB ?_); refine ybk (cs := #[.int .i64 a7, .int .i64 a9, .slice none 0 0]) ?_ 2 _ rfl; refine ybk (cs := #[.int .i64 a7, .int .i64 0, .slice none 0 0]) ?_ 1 _ rfl; refine ybk (cs := #[.int .i64 0, .int .i64 0, .slice none 0 0]) ?_ 0 _ rfl; exact upB a1.out) hb); replace HB := yaa (yan (by repeat (with_reducible first | exact HB.out | apply yae | apply yac | apply yaf | refine yal ?_ (Aside0.out ‹_›))) hb); (try clear hb ho0); obtain ⟨f6, f7, f8⟩ := cc3_ a1.out; obtain ⟨f9, g0⟩ := cf2_ a1.out; have g1 := ybh a1.out 2) | (go_at_call 7; (with_reducible refine (spec_FormWrite.calls k 85 _ _ b3 a7 a9 _ _ a8 b9 _ ?side1 ?side2 ?side3 ?side4 A5.out).mono ?_); (case side1 => repeat (first | exact (yab a2.out).2.2 | (with_reducible refine yag ?_ _) | (with_reducible refine yah ?_ _) | (with_reducible refine yak ?_))); (case side2 => exact (yab a2.out).2.1); (case side3 => repeat (first | exact (yao a3.out).2.2 | (with_reducible refine yag ?_ _) | (with_reducible refine yah ?_ _) | (with_reducible refine yak ?_))); (case side4 => exact (yao a3.out).2.1); rintro e w20 ⟨e8, rfl, ho0, hb⟩; replace a3 := yaa (yaq (upQ a3.out) hb); have a6 := yaa (yaw (yay (yay ho0 (yaz (upR a2.out))) (yaz (upR a5.out))) (yap (by repeat (with_reducible first | exact HB.out | apply yae | apply yac | apply yaf | refine yal ?_ (Aside0.out ‹_›))))); replace a2 := yaa (yar (upR a2.out) (yau ho0) hb); replace a5 := yaa (yar (upR a5.out) (yau ho0) hb); replace a1 := yaa (yav (upB a1.out) hb); replace HB := yaa (yan (by repeat (with_reducible first | exact HB.out | apply yae | apply yac | apply yaf | refine yal ?_ (Aside0.out ‹_›))) hb); (try clear hb ho0); obtain ⟨o2, o3, l6⟩ := yax a5.out; subst l6; obtain ⟨o4, o5, l7⟩ := yax a6.out; subst l7) | (go_at_call 6; (with_reducible refine (laws_eaBytes.calls _ _ b0 _ _ b9 true _ ?side1 ?side2 ?side3 ?side4 A6.out).mono ?_); (case side1 => repeat (first | exact (yab a5.out).2.2 | (with_reducible refine yag ?_ _) | (with_reducible refine yah ?_ _) | (with_reducible refine yak ?_))); (case side2 => exact (yab a5.out).2.1); (case side3 => repeat (first | exact (yab a6.out).2.2 | (with_reducible refine yag ?_ _) | (with_reducible refine yah ?_ _) | (with_reducible refine yak ?_))); (case side4 => exact (yab a6.out).2.1); rintro e w' ⟨rfl, ⟨nd, rfl⟩⟩; (try first | exact ⟨rfl, _, World.drewN_drewN _ _ _⟩ | exact ⟨rfl, _, Eq.trans (World.drewN_drewN _ _ _) (congrArg (World.drewN _) (Nat.add_assoc _ _ _))⟩); obtain ⟨g2, g3, g4⟩ := cc3_ a1.out; obtain ⟨g5, g6⟩ := cf2_ a1.out; have g7 := ybh a1.out 2) | (go_at_call 8; (with_reducible refine (spec_RasOk.calls k a7 a9 _ _ a8 true _ ?side1 ?side2 A9.out).mono ?_); (case side1 => repeat (first | exact (yao a3.out).2.2 | (with_reducible refine yag ?_ _) | (with_reducible refine yah ?_ _) | (with_reducible refine yak ?_))); (case side2 => exact (yao a3.out).2.1); rintro e w24 ⟨rfl, hb⟩; replace a2 := yaa (yaj (upR a2.out) hb); replace a3 := yaa (yaq (upQ a3.out) hb); replace a5 := yaa (yaj (upR a5.out) hb); replace a6 := yaa (yaj (upR a6.out) hb); replace a1 := yaa (yav (upB a1.out) hb); replace HB := yaa (yan (by repeat (with_reducible first | exact HB.out | apply yae | apply yac | apply yaf | refine yal ?_ (Aside0.out ‹_›))) hb); (try clear hb)) | (go_at_call 9; (with_reducible refine (laws_eaOk.calls  k8 _ A12.out).mono ?_); rintro e w25 ⟨rfl, hb⟩; replace a2 := yaa (yaj (upR a2.out) hb); replace a3 := yaa (yaq (upQ a3.out) hb); replace a5 := yaa (yaj (upR a5.out) hb); replace a6 := yaa (yaj (upR a6.out) hb); replace a1 := yaa (yav (upB a1.out) hb); replace HB := yaa (yan (by repeat (with_reducible first | exact HB.out | apply yae | apply yac | apply yaf | refine yal ?_ (Aside0.out ‹_›))) hb); (try clear hb))); try go_wp2_with (first | (go_at_call 4; (with_reducible refine (spec_DrawFormWrite.calls k _ _ l0 e3 b3 a7 a9 a8 _ ?side1 ?side2 A3.out).mono ?_); (case side1 => repeat (first | exact HR0.out | (with_reducible refine yag ?_ _) | (with_reducible refine yah ?_ _) | (with_reducible refine yak ?_))); (case side2 => exact HC0.out); rintro e w13 ⟨e4, e5, rfl, ho0, ho1, hb⟩; have a2 := yaa (yaw ho0 (yap (upH HB.out))); have a3 := yaa (Kd.Q_lower ho1 (yap (upH HB.out))); replace HB := yaa (yan (upH HB.out) hb); (try clear hb ho0 ho1)) | ((with_reducible refine gd_ 5 rfl ?_); (try (refine gate_guard (by rfl) ?_; dsimp only)); refine bx_ 5 rfl #[.int .i64 0, .int .i64 0, .slice none 0 0] 25 ?_; intro a4 hg w14 hbox hb; replace a2 := yaa (yaj (upR a2.out) hb); replace a3 := yaa (yaq (upQ a3.out) hb); have a1 := yaa (hbox); have b4 := yaa ((by rw [hg]; exact (yap (upH HB.out)) : w.heap.size ≤ a4)); replace HB := yaa (yan (upH HB.out) hb); have e0 := b4; clear hb hbox hg; obtain ⟨f0, f1, f2⟩ := cc3_ a1.out; obtain ⟨f3, f4, f5⟩ := cf3_ a1.out; obtain ⟨d2, c3, l3, _⟩ := Kd.Q_slice a3.out; subst l3; obtain ⟨o1, l4, l5⟩ := yax a2.out; subst l5) | (go_at_call 5; (with_reducible refine (impl_FormWrite.calls k 85 _ _ b3 a7 a9 _ _ a8 b0 _ ?side1 ?side2 ?side3 ?side4 A4.out).mono ?_); (case side1 => refine (yab (e := 5) (base := w.heap.size) (ok := fun k_ => True) (n := b3.length) (c := l4) ?_).2.2; exact (by (with_reducible repeat (first | apply yba | apply ybb | apply ybd)); exact (ybe (yam (p := ⟨a4, 2, none⟩) (yam (p := ⟨a4, 1, none⟩) (yam (p := ⟨a4, 0, none⟩) (ybc a2.out a1.out (by decide)) (fun _ hk => hk.2) (.int .i64 a7)) (fun _ hk => hk.2) (.int .i64 a9)) (fun _ hk => hk.2) (.slice d2 a8.length c3)) (fun _ h_ => h_.1)))); (case side2 => exact (yab a2.out).2.1); (case side3 => refine (yao (e := 53) (base := w.heap.size) (ok := fun k_ => True) (n := a8.length) (c := c3) ?_).2.2; exact (by (with_reducible repeat (first | apply ybf | apply ybg | apply ybi)); exact (ybj (yas (p := ⟨a4, 2, none⟩) (yas (p := ⟨a4, 1, none⟩) (yas (p := ⟨a4, 0, none⟩) (yat a3.out a1.out (by decide)) (fun _ hk => hk.2) (.int .i64 a7)) (fun _ hk => hk.2) (.int .i64 a9)) (fun _ hk => hk.2) (.slice d2 a8.length c3)) (fun _ h_ => h_.1)))); (case side4 => exact (yao a3.out).2.1); rintro e w18 ⟨e7, rfl, ho0, hb⟩; replace a3 := yaa (yaq (by (with_reducible repeat (first | apply ybf | apply ybg | apply ybi)); exact (ybj (yas (p := ⟨a4, 2, none⟩) (yas (p := ⟨a4, 1, none⟩) (yas (p := ⟨a4, 0, none⟩) (yat a3.out a1.out (by decide)) (fun _ hk => hk.2) (.int .i64 a7)) (fun _ hk => hk.2) (.int .i64 a9)) (fun _ hk => hk.2) (.slice d2 a8.length c3)) (fun _ h_ => h_.1))) hb); have a5 := yaa (yaw (yay ho0 (yaz (by (with_reducible repeat (first | apply yba | apply ybb | apply ybd)); exact (ybe (yam (p := ⟨a4, 2, none⟩) (yam (p := ⟨a4, 1, none⟩) (yam (p := ⟨a4, 0, none⟩) (ybc a2.out a1.out (by decide)) (fun _ hk => hk.2) (.int .i64 a7)) (fun _ hk => hk.2) (.int .i64 a9)) (fun _ hk => hk.2) (.slice d2 a8.length c3)) (fun _ h_ => h_.1))))) (yap (by repeat (with_reducible first | exact HB.out | apply yae | apply yac | apply yaf | refine yal ?_ (Aside0.out ‹_›))))); replace a2 := yaa (yar (by (with_reducible repeat (first | apply yba | apply ybb | apply ybd)); exact (ybe (yam (p := ⟨a4, 2, none⟩) (yam (p := ⟨a4, 1, none⟩) (yam (p := ⟨a4, 0, none⟩) (ybc a2.out a1.out (by decide)) (fun _ hk => hk.2) (.int .i64 a7)) (fun _ hk => hk.2) (.int .i64 a9)) (fun _ hk => hk.2) (.slice d2 a8.length c3)) (fun _ h_ => h_.1))) (yau ho0) hb); replace a1 := yaa (yav (g := a4) (o := .cells #[.int .i64 a7, .int .i64 a9, .slice d2 a8.length c3] 25 (0, 0)) (by (repeat refine oneB ?_); refine ybk (cs := #[.int .i64 a7, .int .i64 a9, .slice none 0 0]) ?_ 2 _ rfl; refine ybk (cs := #[.int .i64 a7, .int .i64 0, .slice none 0 0]) ?_ 1 _ rfl; refine ybk (cs := #[.int .i64 0, .int .i64 0, .slice none 0 0]) ?_ 0 _ rfl; exact upB a1.out) hb); replace HB := yaa (yan (by repeat (with_reducible first | exact HB.out | apply yae | apply yac | apply yaf | refine yal ?_ (Aside0.out ‹_›))) hb); (try clear hb ho0); obtain ⟨f6, f7, f8⟩ := cc3_ a1.out; obtain ⟨f9, g0⟩ := cf2_ a1.out; have g1 := ybh a1.out 2) | (go_at_call 7; (with_reducible refine (spec_FormWrite.calls k 85 _ _ b3 a7 a9 _ _ a8 b9 _ ?side1 ?side2 ?side3 ?side4 A5.out).mono ?_); (case side1 => repeat (first | exact (yab a2.out).2.2 | (with_reducible refine yag ?_ _) | (with_reducible refine yah ?_ _) | (with_reducible refine yak ?_))); (case side2 => exact (yab a2.out).2.1); (case side3 => repeat (first | exact (yao a3.out).2.2 | (with_reducible refine yag ?_ _) | (with_reducible refine yah ?_ _) | (with_reducible refine yak ?_))); (case side4 => exact (yao a3.out).2.1); rintro e w20 ⟨e8, rfl, ho0, hb⟩; replace a3 := yaa (yaq (upQ a3.out) hb); have a6 := yaa (yaw (yay (yay ho0 (yaz (upR a2.out))) (yaz (upR a5.out))) (yap (by repeat (with_reducible first | exact HB.out | apply yae | apply yac | apply yaf | refine yal ?_ (Aside0.out ‹_›))))); replace a2 := yaa (yar (upR a2.out) (yau ho0) hb); replace a5 := yaa (yar (upR a5.out) (yau ho0) hb); replace a1 := yaa (yav (upB a1.out) hb); replace HB := yaa (yan (by repeat (with_reducible first | exact HB.out | apply yae | apply yac | apply yaf | refine yal ?_ (Aside0.out ‹_›))) hb); (try clear hb ho0); obtain ⟨o2, o3, l6⟩ := yax a5.out; subst l6; obtain ⟨o4, o5, l7⟩ := yax a6.out; subst l7) | (go_at_call 6; (with_reducible refine (laws_eaBytes.calls _ _ b0 _ _ b9 true _ ?side1 ?side2 ?side3 ?side4 A6.out).mono ?_); (case side1 => repeat (first | exact (yab a5.out).2.2 | (with_reducible refine yag ?_ _) | (with_reducible refine yah ?_ _) | (with_reducible refine yak ?_))); (case side2 => exact (yab a5.out).2.1); (case side3 => repeat (first | exact (yab a6.out).2.2 | (with_reducible refine yag ?_ _) | (with_reducible refine yah ?_ _) | (with_reducible refine yak ?_))); (case side4 => exact (yab a6.out).2.1); rintro e w' ⟨rfl, ⟨nd, rfl⟩⟩; (try first | exact ⟨rfl, _, World.drewN_drewN _ _ _⟩ | exact ⟨rfl, _, Eq.trans (World.drewN_drewN _ _ _) (congrArg (World.drewN _) (Nat.add_assoc _ _ _))⟩); obtain ⟨g2, g3, g4⟩ := cc3_ a1.out; obtain ⟨g5, g6⟩ := cf2_ a1.out; have g7 := ybh a1.out 2) | (go_at_call 8; (with_reducible refine (spec_RasOk.calls k a7 a9 _ _ a8 true _ ?side1 ?side2 A9.out).mono ?_); (case side1 => repeat (first | exact (yao a3.out).2.2 | (with_reducible refine yag ?_ _) | (with_reducible refine yah ?_ _) | (with_reducible refine yak ?_))); (case side2 => exact (yao a3.out).2.1); rintro e w24 ⟨rfl, hb⟩; replace a2 := yaa (yaj (upR a2.out) hb); replace a3 := yaa (yaq (upQ a3.out) hb); replace a5 := yaa (yaj (upR a5.out) hb); replace a6 := yaa (yaj (upR a6.out) hb); replace a1 := yaa (yav (upB a1.out) hb); replace HB := yaa (yan (by repeat (with_reducible first | exact HB.out | apply yae | apply yac | apply yaf | refine yal ?_ (Aside0.out ‹_›))) hb); (try clear hb)) | (go_at_call 9; (with_reducible refine (laws_eaOk.calls  k8 _ A12.out).mono ?_); rintro e w25 ⟨rfl, hb⟩; replace a2 := yaa (yaj (upR a2.out) hb); replace a3 := yaa (yaq (upQ a3.out) hb); replace a5 := yaa (yaj (upR a5.out) hb); replace a6 := yaa (yaj (upR a6.out) hb); replace a1 := yaa (yav (upB a1.out) hb); replace HB := yaa (yan (by repeat (with_reducible first | exact HB.out | apply yae | apply yac | apply yaf | refine yal ?_ (Aside0.out ‹_›))) hb); (try clear hb))))
      go_ret
      exact ⟨by first | rfl | (simp [*, errW_none, errW_some] <;> rfl), by repeat (with_reducible first | exact HB.out | apply yae | apply yac | apply yaf | refine yal ?_ (Aside0.out ‹_›))⟩
     ·
      rw [if_neg c11] at H
      have n9 : decide (9 < (b3.length : Int)) = false := decide_eq_false c11; have o0 : decide (9 < b3.length) = false := decide_eq_false (by omega); clear c11
      rw [hrt] at H
      exact absurd H (by simp)
    ·
     replace c10 := Bool.eq_false_iff.mpr c10
     subst c10
     rw [if_neg (show ¬ (false = true) by decide)] at H
     obtain ⟨k9, A26, H⟩ := bindA H; (try dsimp only at H); obtain rfl := Option.some.inj H
     go_enter Try.func3, Try.ntmps3
     go_wp2_with (first | (go_at_call 4; (with_reducible refine (spec_DrawFormWrite.calls k _ _ l0 e3 b3 a7 a9 a8 _ ?side1 ?side2 A3.out).mono ?_); (case side1 => repeat (first | exact HR0.out | (with_reducible refine yag ?_ _) | (with_reducible refine yah ?_ _) | (with_reducible refine yak ?_))); (case side2 => exact HC0.out); rintro e w27 ⟨e4, e5, rfl, ho0, ho1, hb⟩; have a2 := yaa (yaw ho0 (yap (upH HB.out))); have a3 := yaa (Kd.Q_lower ho1 (yap (upH HB.out))); replace HB := yaa (yan (upH HB.out) hb); (try clear hb ho0 ho1)) | ((with_reducible refine gd_ 5 rfl ?_); (try (refine gate_guard (by rfl) ?_; dsimp only)); refine bx_ 5 rfl #[.int .i64 0, .int .i64 0, .slice none 0 0] 25 ?_; intro a4 hg w28 hbox hb; replace a2 := yaa (yaj (upR a2.out) hb); replace a3 := yaa (yaq (upQ a3.out) hb); have a1 := yaa (hbox); have b4 := yaa ((by rw [hg]; exact (yap (upH HB.out)) : w.heap.size ≤ a4)); replace HB := yaa (yan (upH HB.out) hb); have e0 := b4; clear hb hbox hg; obtain ⟨g8, g9, h0⟩ := cc3_ a1.out; obtain ⟨h2, h3, h4⟩ := cf3_ a1.out; obtain ⟨d3, c4, l8, _⟩ := Kd.Q_slice a3.out; subst l8; obtain ⟨o6, l9, m0⟩ := yax a2.out; subst m0) | (go_at_call 5; (with_reducible refine (impl_FormWrite.calls k 85 _ _ b3 a7 a9 _ _ a8 b0 _ ?side1 ?side2 ?side3 ?side4 A4.out).mono ?_); (case side1 => refine (yab (e := 5) (base := w.heap.size) (ok := fun k_ => True) (n := b3.length) (c := l9) ?_).2.2; exact (by (with_reducible repeat (first | apply yba | apply ybb | apply ybd)); exact (ybe (yam (p := ⟨a4, 2, none⟩) (yam (p := ⟨a4, 1, none⟩) (yam (p := ⟨a4, 0, none⟩) (ybc a2.out a1.out (by decide)) (fun _ hk => hk.2) (.int .i64 a7)) (fun _ hk => hk.2) (.int .i64 a9)) (fun _ hk => hk.2) (.slice d3 a8.length c4)) (fun _ h_ => h_.1)))); (case side2 => exact (yab a2.out).2.1); (case side3 => refine (yao (e := 53) (base := w.heap.size) (ok := fun k_ => True) (n := a8.length) (c := c4) ?_).2.2; exact (by (with_reducible repeat (first | apply ybf | apply ybg | apply ybi)); exact (ybj (yas (p := ⟨a4, 2, none⟩) (yas (p := ⟨a4, 1, none⟩) (yas (p := ⟨a4, 0, none⟩) (yat a3.out a1.out (by decide)) (fun _ hk => hk.2) (.int .i64 a7)) (fun _ hk => hk.2) (.int .i64 a9)) (fun _ hk => hk.2) (.slice d3 a8.length c4)) (fun _ h_ => h_.1)))); (case side4 => exact (yao a3.out).2.1); rintro e w32 ⟨e7, rfl, ho0, hb⟩; replace a3 := yaa (yaq (by (with_reducible repeat (first | apply ybf | apply ybg | apply ybi)); exact (ybj (yas (p := ⟨a4, 2, none⟩) (yas (p := ⟨a4, 1, none⟩) (yas (p := ⟨a4, 0, none⟩) (yat a3.out a1.out (by decide)) (fun _ hk => hk.2) (.int .i64 a7)) (fun _ hk => hk.2) (.int .i64 a9)) (fun _ hk => hk.2) (.slice d3 a8.length c4)) (fun _ h_ => h_.1))) hb); have a5 := yaa (yaw (yay ho0 (yaz (by (with_reducible repeat (first | apply yba | apply ybb | apply ybd)); exact (ybe (yam (p := ⟨a4, 2, none⟩) (yam (p := ⟨a4, 1, none⟩) (yam (p := ⟨a4, 0, none⟩) (ybc a2.out a1.out (by decide)) (fun _ hk => hk.2) (.int .i64 a7)) (fun _ hk => hk.2) (.int .i64 a9)) (fun _ hk => hk.2) (.slice d3 a8.length c4)) (fun _ h_ => h_.1))))) (yap (by repeat (with_reducible first | exact HB.out | apply yae | apply yac | apply yaf | refine yal ?_ (Aside0.out ‹_›))))); replace a2 := yaa (yar (by (with_reducible repeat (first | apply yba | apply ybb | apply ybd)); exact (ybe (yam (p := ⟨a4, 2, none⟩) (yam (p := ⟨a4, 1, none⟩) (yam (p := ⟨a4, 0, none⟩) (ybc a2.out a1.out (by decide)) (fun _ hk => hk.2) (.int .i64 a7)) (fun _ hk => hk.2) (.int .i64 a9)) (fun _ hk => hk.2) (.slice d3 a8.length c4)) (fun _ h_ => h_.1))) (yau ho0) hb); replace a1 := yaa (yav (g := a4) (o := .cells #[.int .i64 a7, .int .i64 a9, .slice d3 a8.length c4] 25 (0, 0)) (by (repeat refine oneB ?_); refine ybk (cs := #[.int .i64 a7, .int .i64 a9, .slice none 0 0]) ?_ 2 _ rfl; refine ybk (cs := #[.int .i64 a7, .int .i64 0, .slice none 0 0]) ?_ 1 _ rfl; refine ybk (cs := #[.int .i64 0, .int .i64 0, .slice none 0 0]) ?_ 0 _ rfl; exact upB a1.out) hb); replace HB := yaa (yan (by repeat (with_reducible first | exact HB.out | apply yae | apply yac | apply yaf | refine yal ?_ (Aside0.out ‹_›))) hb); (try clear hb ho0); obtain ⟨h5, h6, h7⟩ := cc3_ a1.out; obtain ⟨h8, h9⟩ := cf2_ a1.out; have i0 := ybh a1.out 2) | (go_at_call 7; (with_reducible refine (spec_FormWrite.calls k 85 _ _ b3 a7 a9 _ _ a8 b9 _ ?side1 ?side2 ?side3 ?side4 A5.out).mono ?_); (case side1 => repeat (first | exact (yab a2.out).2.2 | (with_reducible refine yag ?_ _) | (with_reducible refine yah ?_ _) | (with_reducible refine yak ?_))); (case side2 => exact (yab a2.out).2.1); (case side3 => repeat (first | exact (yao a3.out).2.2 | (with_reducible refine yag ?_ _) | (with_reducible refine yah ?_ _) | (with_reducible refine yak ?_))); (case side4 => exact (yao a3.out).2.1); rintro e w34 ⟨e8, rfl, ho0, hb⟩; replace a3 := yaa (yaq (upQ a3.out) hb); have a6 := yaa (yaw (yay (yay ho0 (yaz (upR a2.out))) (yaz (upR a5.out))) (yap (by repeat (with_reducible first | exact HB.out | apply yae | apply yac | apply yaf | refine yal ?_ (Aside0.out ‹_›))))); replace a2 := yaa (yar (upR a2.out) (yau ho0) hb); replace a5 := yaa (yar (upR a5.out) (yau ho0) hb); replace a1 := yaa (yav (upB a1.out) hb); replace HB := yaa (yan (by repeat (with_reducible first | exact HB.out | apply yae | apply yac | apply yaf | refine yal ?_ (Aside0.out ‹_›))) hb); (try clear hb ho0); obtain ⟨o7, o8, m1⟩ := yax a5.out; subst m1; obtain ⟨o9, p0, m2⟩ := yax a6.out; subst m2) | (go_at_call 6; (with_reducible refine (laws_eaBytes.calls _ _ b0 _ _ b9 true _ ?side1 ?side2 ?side3 ?side4 A6.out).mono ?_); (case side1 => repeat (first | exact (yab a5.out).2.2 | (with_reducible refine yag ?_ _) | (with_reducible refine yah ?_ _) | (with_reducible refine yak ?_))); (case side2 => exact (yab a5.out).2.1); (case side3 => repeat (first | exact (yab a6.out).2.2 | (with_reducible refine yag ?_ _) | (with_reducible refine yah ?_ _) | (with_reducible refine yak ?_))); (case side4 => exact (yab a6.out).2.1); rintro e w' ⟨rfl, ⟨nd, rfl⟩⟩; (try first | exact ⟨rfl, _, World.drewN_drewN _ _ _⟩ | exact ⟨rfl, _, Eq.trans (World.drewN_drewN _ _ _) (congrArg (World.drewN _) (Nat.add_assoc _ _ _))⟩); obtain ⟨i1, i2, i3⟩ := cc3_ a1.out; obtain ⟨i4, i5⟩ := cf2_ a1.out; have i6 := ybh a1.out 2) | (go_at_call 8; (with_reducible refine (spec_RasOk.calls k a7 a9 _ _ a8 false _ ?side1 ?side2 A9.out).mono ?_); (case side1 => repeat (first | exact (yao a3.out).2.2 | (with_reducible refine yag ?_ _) | (with_reducible refine yah ?_ _) | (with_reducible refine yak ?_))); (case side2 => exact (yao a3.out).2.1); rintro e w38 ⟨rfl, hb⟩; replace a2 := yaa (yaj (upR a2.out) hb); replace a3 := yaa (yaq (upQ a3.out) hb); replace a5 := yaa (yaj (upR a5.out) hb); replace a6 := yaa (yaj (upR a6.out) hb); replace a1 := yaa (yav (upB a1.out) hb); replace HB := yaa (yan (by repeat (with_reducible first | exact HB.out | apply yae | apply yac | apply yaf | refine yal ?_ (Aside0.out ‹_›))) hb); (try clear hb)) | (go_at_call 9; (with_reducible refine (laws_eaOk.calls  k9 _ A26.out).mono ?_); rintro e w39 ⟨rfl, hb⟩; replace a2 := yaa (yaj (upR a2.out) hb); replace a3 := yaa (yaq (upQ a3.out) hb); replace a5 := yaa (yaj (upR a5.out) hb); replace a6 := yaa (yaj (upR a6.out) hb); replace a1 := yaa (yav (upB a1.out) hb); replace HB := yaa (yan (by repeat (with_reducible first | exact HB.out | apply yae | apply yac | apply yaf | refine yal ?_ (Aside0.out ‹_›))) hb); (try clear hb)))
     repeat (go_quiet (first | (go_at_call 4; (with_reducible refine (spec_DrawFormWrite.calls k _ _ l0 e3 b3 a7 a9 a8 _ ?side1 ?side2 A3.out).mono ?_); (case side1 => repeat (first | exact HR0.out | (with_reducible refine yag ?_ _) | (with_reducible refine yah ?_ _) | (with_reducible refine yak ?_))); (case side2 => exact HC0.out); rintro e w27 ⟨e4, e5, rfl, ho0, ho1, hb⟩; have a2 := yaa (yaw ho0 (yap (upH HB.out))); have a3 := yaa (Kd.Q_lower ho1 (yap (upH HB.out))); replace HB := yaa (yan (upH HB.out) hb); (try clear hb ho0 ho1)) | ((with_reducible refine gd_ 5 rfl ?_); (try (refine gate_guard (by rfl) ?_; dsimp only)); refine bx_ 5 rfl #[.int .i64 0, .int .i64 0, .slice none 0 0] 25 ?_; intro a4 hg w28 hbox hb; replace a2 := yaa (yaj (upR a2.out) hb); replace a3 := yaa (yaq (upQ a3.out) hb); have a1 := yaa (hbox); have b4 := yaa ((by rw [hg]; exact (yap (upH HB.out)) : w.heap.size ≤ a4)); replace HB := yaa (yan (upH HB.out) hb); have e0 := b4; clear hb hbox hg; obtain ⟨g8, g9, h0⟩ := cc3_ a1.out; obtain ⟨h2, h3, h4⟩ := cf3_ a1.out; obtain ⟨d3, c4, l8, _⟩ := Kd.Q_slice a3.out; subst l8; obtain ⟨o6, l9, m0⟩ := yax a2.out; subst m0) | (go_at_call 5; (with_reducible refine (impl_FormWrite.calls k 85 _ _ b3 a7 a9 _ _ a8 b0 _ ?side1 ?side2 ?side3 ?side4 A4.out).mono ?_); (case side1 => refine (yab (e := 5) (base := w.heap.size) (ok := fun k_ => True) (n := b3.length) (c := l9) ?_).2.2; exact (by (with_reducible repeat (first | apply yba | apply ybb | apply ybd)); exact (ybe (yam (p := ⟨a4, 2, none⟩) (yam (p := ⟨a4, 1, none⟩) (yam (p := ⟨a4, 0, none⟩) (ybc a2.out a1.out (by decide)) (fun _ hk => hk.2) (.int .i64 a7)) (fun _ hk => hk.2) (.int .i64 a9)) (fun _ hk => hk.2) (.slice d3 a8.length c4)) (fun _ h_ => h_.1)))); (case side2 => exact (yab a2.out).2.1); (case side3 => refine (yao (e := 53) (base := w.heap.size) (ok := fun k_ => True) (n := a8.length) (c := c4) ?_).2.2; exact (by (with_reducible repeat (first | apply ybf | apply ybg | apply ybi)); exact (ybj (yas (p := ⟨a4, 2, none⟩) (yas (p := ⟨a4, 1, none⟩) (yas (p := ⟨a4, 0, none⟩) (yat a3.out a1.out (by decide)) (fun _ hk => hk.2) (.int .i64 a7)) (fun _ hk => hk.2) (.int .i64 a9)) (fun _ hk => hk.2) (.slice d3 a8.length c4)) (fun _ h_ => h_.1)))); (case side4 => exact (yao a3.out).2.1); rintro e w32 ⟨e7, rfl, ho0, hb⟩; replace a3 := yaa (yaq (by (with_reducible repeat (first | apply ybf | apply ybg | apply ybi)); exact (ybj (yas (p := ⟨a4, 2, none⟩) (yas (p := ⟨a4, 1, none⟩) (yas (p := ⟨a4, 0, none⟩) (yat a3.out a1.out (by decide)) (fun _ hk => hk.2) (.int .i64 a7)) (fun _ hk => hk.2) (.int .i64 a9)) (fun _ hk => hk.2) (.slice d3 a8.length c4)) (fun _ h_ => h_.1))) hb); have a5 := yaa (yaw (yay ho0 (yaz (by (with_reducible repeat (first | apply yba | apply ybb | apply ybd)); exact (ybe (yam (p := ⟨a4, 2, none⟩) (yam (p := ⟨a4, 1, none⟩) (yam (p := ⟨a4, 0, none⟩) (ybc a2.out a1.out (by decide)) (fun _ hk => hk.2) (.int .i64 a7)) (fun _ hk => hk.2) (.int .i64 a9)) (fun _ hk => hk.2) (.slice d3 a8.length c4)) (fun _ h_ => h_.1))))) (yap (by repeat (with_reducible first | exact HB.out | apply yae | apply yac | apply yaf | refine yal ?_ (Aside0.out ‹_›))))); replace a2 := yaa (yar (by (with_reducible repeat (first | apply yba | apply ybb | apply ybd)); exact (ybe (yam (p := ⟨a4, 2, none⟩) (yam (p := ⟨a4, 1, none⟩) (yam (p := ⟨a4, 0, none⟩) (ybc a2.out a1.out (by decide)) (fun _ hk => hk.2) (.int .i64 a7)) (fun _ hk => hk.2) (.int .i64 a9)) (fun _ hk => hk.2) (.slice d3 a8.length c4)) (fun _ h_ => h_.1))) (yau ho0) hb); replace a1 := yaa (yav (g := a4) (o := .cells #[.int .i64 a7, .int .i64 a9, .slice d3 a8.length c4] 25 (0, 0)) (by (repeat refine oneB ?_); refine ybk (cs := #[.int .i64 a7, .int .i64 a9, .slice none 0 0]) ?_ 2 _ rfl; refine ybk (cs := #[.int .i64 a7, .int .i64 0, .slice none 0 0]) ?_ 1 _ rfl; refine ybk (cs := #[.int .i64 0, .int .i64 0, .slice none 0 0]) ?_ 0 _ rfl; exact upB a1.out) hb); replace HB := yaa (yan (by repeat (with_reducible first | exact HB.out | apply yae | apply yac | apply yaf | refine yal ?_ (Aside0.out ‹_›))) hb); (try clear hb ho0); obtain ⟨h5, h6, h7⟩ := cc3_ a1.out; obtain ⟨h8, h9⟩ := cf2_ a1.out; have i0 := ybh a1.out 2) | (go_at_call 7; (with_reducible refine (spec_FormWrite.calls k 85 _ _ b3 a7 a9 _ _ a8 b9 _ ?side1 ?side2 ?side3 ?side4 A5.out).mono ?_); (case side1 => repeat (first | exact (yab a2.out).2.2 | (with_reducible refine yag ?_ _) | (with_reducible refine yah ?_ _) | (with_reducible refine yak ?_))); (case side2 => exact (yab a2.out).2.1); (case side3 => repeat (first | exact (yao a3.out).2.2 | (with_reducible refine yag ?_ _) | (with_reducible refine yah ?_ _) | (with_reducible refine yak ?_))); (case side4 => exact (yao a3.out).2.1); rintro e w34 ⟨e8, rfl, ho0, hb⟩; replace a3 := yaa (yaq (upQ a3.out) hb); have a6 := yaa (yaw (yay (yay ho0 (yaz (upR a2.out))) (yaz (upR a5.out))) (yap (by repeat (with_reducible first | exact HB.out | apply yae | apply yac | apply yaf | refine yal ?_ (Aside0.out ‹_›))))); replace a2 := yaa (yar (upR a2.out) (yau ho0) hb); replace a5 := yaa (yar (upR a5.out) (yau ho0) hb); replace a1 := yaa (yav (upB a1.out) hb); replace HB := yaa (yan (by repeat (with_reducible first | exact HB.out | apply yae | apply yac | apply yaf | refine yal ?_ (Aside0.out ‹_›))) hb); (try clear hb ho0); obtain ⟨o7, o8, m1⟩ := yax a5.out; subst m1; obtain ⟨o9, p0, m2⟩ := yax a6.out; subst m2) | (go_at_call 6; (with_reducible refine (laws_eaBytes.calls _ _ b0 _ _ b9 true _ ?side1 ?side2 ?side3 ?side4 A6.out).mono ?_); (case side1 => repeat (first | exact (yab a5.out).2.2 | (with_reducible refine yag ?_ _) | (with_reducible refine yah ?_ _) | (with_reducible refine yak ?_))); (case side2 => exact (yab a5.out).2.1); (case side3 => repeat (first | exact (yab a6.out).2.2 | (with_reducible refine yag ?_ _) | (with_reducible refine yah ?_ _) | (with_reducible refine yak ?_))); (case side4 => exact (yab a6.out).2.1); rintro e w' ⟨rfl, ⟨nd, rfl⟩⟩; (try first | exact ⟨rfl, _, World.drewN_drewN _ _ _⟩ | exact ⟨rfl, _, Eq.trans (World.drewN_drewN _ _ _) (congrArg (World.drewN _) (Nat.add_assoc _ _ _))⟩); obtain ⟨i1, i2, i3⟩ := cc3_ a1.out; obtain ⟨i4, i5⟩ := cf2_ a1.out; have i6 := ybh a1.out 2) | (go_at_call 8; (with_reducible refine (spec_RasOk.calls k a7 a9 _ _ a8 false _ ?side1 ?side2 A9.out).mono ?_); (case side1 => repeat (first | exact (yao a3.out).2.2 | (with_reducible refine yag ?_ _) | (with_reducible refine yah ?_ _) | (with_reducible refine yak ?_))); (case side2 => exact (yao a3.out).2.1); rintro e w38 ⟨rfl, hb⟩; replace a2 := yaa (yaj (upR a2.out) hb); replace a3 := yaa (yaq (upQ a3.out) hb); replace a5 := yaa (yaj (upR a5.out) hb); replace a6 := yaa (yaj (upR a6.out) hb); replace a1 := yaa (yav (upB a1.out) hb); replace HB := yaa (yan (by repeat (with_reducible first | exact HB.out | apply yae | apply yac | apply yaf | refine yal ?_ (Aside0.out ‹_›))) hb); (try clear hb)) | (go_at_call 9; (with_reducible refine (laws_eaOk.calls  k9 _ A26.out).mono ?_); rintro e w39 ⟨rfl, hb⟩; replace a2 := yaa (yaj (upR a2.out) hb); replace a3 := yaa (yaq (upQ a3.out) hb); replace a5 := yaa (yaj (upR a5.out) hb); replace a6 := yaa (yaj (upR a6.out) hb); replace a1 := yaa (yav (upB a1.out) hb); replace HB := yaa (yan (by repeat (with_reducible first | exact HB.out | apply yae | apply yac | apply yaf | refine yal ?_ (Aside0.out ‹_›))) hb); (try clear hb))); try go_wp2_with (first | (go_at_call 4; (with_reducible refine (spec_DrawFormWrite.calls k _ _ l0 e3 b3 a7 a9 a8 _ ?side1 ?side2 A3.out).mono ?_); (case side1 => repeat (first | exact HR0.out | (with_reducible refine yag ?_ _) | (with_reducible refine yah ?_ _) | (with_reducible refine yak ?_))); (case side2 => exact HC0.out); rintro e w27 ⟨e4, e5, rfl, ho0, ho1, hb⟩; have a2 := yaa (yaw ho0 (yap (upH HB.out))); have a3 := yaa (Kd.Q_lower ho1 (yap (upH HB.out))); replace HB := yaa (yan (upH HB.out) hb); (try clear hb ho0 ho1)) | ((with_reducible refine gd_ 5 rfl ?_); (try (refine gate_guard (by rfl) ?_; dsimp only)); refine bx_ 5 rfl #[.int .i64 0, .int .i64 0, .slice none 0 0] 25 ?_; intro a4 hg w28 hbox hb; replace a2 := yaa (yaj (upR a2.out) hb); replace a3 := yaa (yaq (upQ a3.out) hb); have a1 := yaa (hbox); have b4 := yaa ((by rw [hg]; exact (yap (upH HB.out)) : w.heap.size ≤ a4)); replace HB := yaa (yan (upH HB.out) hb); have e0 := b4; clear hb hbox hg; obtain ⟨g8, g9, h0⟩ := cc3_ a1.out; obtain ⟨h2, h3, h4⟩ := cf3_ a1.out; obtain ⟨d3, c4, l8, _⟩ := Kd.Q_slice a3.out; subst l8; obtain ⟨o6, l9, m0⟩ := yax a2.out; subst m0) | (go_at_call 5; (with_reducible refine (impl_FormWrite.calls k 85 _ _ b3 a7 a9 _ _ a8 b0 _ ?side1 ?side2 ?side3 ?side4 A4.out).mono ?_); (case side1 => refine (yab (e := 5) (base := w.heap.size) (ok := fun k_ => True) (n := b3.length) (c := l9) ?_).2.2; exact (by (with_reducible repeat (first | apply yba | apply ybb | apply ybd)); exact (ybe (yam (p := ⟨a4, 2, none⟩) (yam (p := ⟨a4, 1, none⟩) (yam (p := ⟨a4, 0, none⟩) (ybc a2.out a1.out (by decide)) (fun _ hk => hk.2) (.int .i64 a7)) (fun _ hk => hk.2) (.int .i64 a9)) (fun _ hk => hk.2) (.slice d3 a8.length c4)) (fun _ h_ => h_.1)))); (case side2 => exact (yab a2.out).2.1); (case side3 => refine (yao (e := 53) (base := w.heap.size) (ok := fun k_ => True) (n := a8.length) (c := c4) ?_).2.2; exact (by (with_reducible repeat (first | apply ybf | apply ybg | apply ybi)); exact (ybj (yas (p := ⟨a4, 2, none⟩) (yas (p := ⟨a4, 1, none⟩) (yas (p := ⟨a4, 0, none⟩) (yat a3.out a1.out (by decide)) (fun _ hk => hk.2) (.int .i64 a7)) (fun _ hk => hk.2) (.int .i64 a9)) (fun _ hk => hk.2) (.slice d3 a8.length c4)) (fun _ h_ => h_.1)))); (case side4 => exact (yao a3.out).2.1); rintro e w32 ⟨e7, rfl, ho0, hb⟩; replace a3 := yaa (yaq (by (with_reducible repeat (first | apply ybf | apply ybg | apply ybi)); exact (ybj (yas (p := ⟨a4, 2, none⟩) (yas (p := ⟨a4, 1, none⟩) (yas (p := ⟨a4, 0, none⟩) (yat a3.out a1.out (by decide)) (fun _ hk => hk.2) (.int .i64 a7)) (fun _ hk => hk.2) (.int .i64 a9)) (fun _ hk => hk.2) (.slice d3 a8.length c4)) (fun _ h_ => h_.1))) hb); have a5 := yaa (yaw (yay ho0 (yaz (by (with_reducible repeat (first | apply yba | apply ybb | apply ybd)); exact (ybe (yam (p := ⟨a4, 2, none⟩) (yam (p := ⟨a4, 1, none⟩) (yam (p := ⟨a4, 0, none⟩) (ybc a2.out a1.out (by decide)) (fun _ hk => hk.2) (.int .i64 a7)) (fun _ hk => hk.2) (.int .i64 a9)) (fun _ hk => hk.2) (.slice d3 a8.length c4)) (fun _ h_ => h_.1))))) (yap (by repeat (with_reducible first | exact HB.out | apply yae | apply yac | apply yaf | refine yal ?_ (Aside0.out ‹_›))))); replace a2 := yaa (yar (by (with_reducible repeat (first | apply yba | apply ybb | apply ybd)); exact (ybe (yam (p := ⟨a4, 2, none⟩) (yam (p := ⟨a4, 1, none⟩) (yam (p := ⟨a4, 0, none⟩) (ybc a2.out a1.out (by decide)) (fun _ hk => hk.2) (.int .i64 a7)) (fun _ hk => hk.2) (.int .i64 a9)) (fun _ hk => hk.2) (.slice d3 a8.length c4)) (fun _ h_ => h_.1))) (yau ho0) hb); replace a1 := yaa (yav (g := a4) (o := .cells #[.int .i64 a7, .int .i64 a9, .slice d3 a8.length c4] 25 (0, 0)) (by (repeat refine oneB ?_); refine ybk (cs := #[.int .i64 a7, .int .i64 a9, .slice none 0 0]) ?_ 2 _ rfl; refine ybk (cs := #[.int .i64 a7, .int .i64 0, .slice none 0 0]) ?_ 1 _ rfl; refine ybk (cs := #[.int .i64 0, .int .i64 0, .slice none 0 0]) ?_ 0 _ rfl; exact upB a1.out) hb); replace HB := yaa (yan (by repeat (with_reducible first | exact HB.out | apply yae | apply yac | apply yaf | refine yal ?_ (Aside0.out ‹_›))) hb); (try clear hb ho0); obtain ⟨h5, h6, h7⟩ := cc3_ a1.out; obtain ⟨h8, h9⟩ := cf2_ a1.out; have i0 := ybh a1.out 2) | (go_at_call 7; (with_reducible refine (spec_FormWrite.calls k 85 _ _ b3 a7 a9 _ _ a8 b9 _ ?side1 ?side2 ?side3 ?side4 A5.out).mono ?_); (case side1 => repeat (first | exact (yab a2.out).2.2 | (with_reducible refine yag ?_ _) | (with_reducible refine yah ?_ _) | (with_reducible refine yak ?_))); (case side2 => exact (yab a2.out).2.1); (case side3 => repeat (first | exact (yao a3.out).2.2 | (with_reducible refine yag ?_ _) | (with_reducible refine yah ?_ _) | (with_reducible refine yak ?_))); (case side4 => exact (yao a3.out).2.1); rintro e w34 ⟨e8, rfl, ho0, hb⟩; replace a3 := yaa (yaq (upQ a3.out) hb); have a6 := yaa (yaw (yay (yay ho0 (yaz (upR a2.out))) (yaz (upR a5.out))) (yap (by repeat (with_reducible first | exact HB.out | apply yae | apply yac | apply yaf | refine yal ?_ (Aside0.out ‹_›))))); replace a2 := yaa (yar (upR a2.out) (yau ho0) hb); replace a5 := yaa (yar (upR a5.out) (yau ho0) hb); replace a1 := yaa (yav (upB a1.out) hb); replace HB := yaa (yan (by repeat (with_reducible first | exact HB.out | apply yae | apply yac | apply yaf | refine yal ?_ (Aside0.out ‹_›))) hb); (try clear hb ho0); obtain ⟨o7, o8, m1⟩ := yax a5.out; subst m1; obtain ⟨o9, p0, m2⟩ := yax a6.out; subst m2) | (go_at_call 6; (with_reducible refine (laws_eaBytes.calls _ _ b0 _ _ b9 true _ ?side1 ?side2 ?side3 ?side4 A6.out).mono ?_); (case side1 => repeat (first | exact (yab a5.out).2.2 | (with_reducible refine yag ?_ _) | (with_reducible refine yah ?_ _) | (with_reducible refine yak ?_))); (case side2 => exact (yab a5.out).2.1); (case side3 => repeat (first | exact (yab a6.out).2.2 | (with_reducible refine yag ?_ _) | (with_reducible refine yah ?_ _) | (with_reducible refine yak ?_))); (case side4 => exact (yab a6.out).2.1); rintro e w' ⟨rfl, ⟨nd, rfl⟩⟩; (try first | exact ⟨rfl, _, World.drewN_drewN _ _ _⟩ | exact ⟨rfl, _, Eq.trans (World.drewN_drewN _ _ _) (congrArg (World.drewN _) (Nat.add_assoc _ _ _))⟩); obtain ⟨i1, i2, i3⟩ := cc3_ a1.out; obtain ⟨i4, i5⟩ := cf2_ a1.out; have i6 := ybh a1.out 2) | (go_at_call 8; (with_reducible refine (spec_RasOk.calls k a7 a9 _ _ a8 false _ ?side1 ?side2 A9.out).mono ?_); (case side1 => repeat (first | exact (yao a3.out).2.2 | (with_reducible refine yag ?_ _) | (with_reducible refine yah ?_ _) | (with_reducible refine yak ?_))); (case side2 => exact (yao a3.out).2.1); rintro e w38 ⟨rfl, hb⟩; replace a2 := yaa (yaj (upR a2.out) hb); replace a3 := yaa (yaq (upQ a3.out) hb); replace a5 := yaa (yaj (upR a5.out) hb); replace a6 := yaa (yaj (upR a6.out) hb); replace a1 := yaa (yav (upB a1.out) hb); replace HB := yaa (yan (by repeat (with_reducible first | exact HB.out | apply yae | apply yac | apply yaf | refine yal ?_ (Aside0.out ‹_›))) hb); (try clear hb)) | (go_at_call 9; (with_reducible refine (laws_eaOk.calls  k9 _ A26.out).mono ?_); rintro e w39 ⟨rfl, hb⟩; replace a2 := yaa (yaj (upR a2.out) hb); replace a3 := yaa (yaq (upQ a3.out) hb); replace a5 := yaa (yaj (upR a5.out) hb); replace a6 := yaa (yaj (upR a6.out) hb); replace a1 := yaa (yav (upB a1.out) hb); replace HB := yaa (yan (by repeat (with_reducible first | exact HB.out | apply yae | apply yac | apply yaf | refine yal ?_ (Aside0.out ‹_›))) hb); (try clear hb))))
     go_ret
     exact ⟨by first | rfl | (simp [*, errW_none, errW_some] <;> rfl), by repeat (with_reducible first | exact HB.out | apply yae | apply yac | apply yaf | refine yal ?_ (Aside0.out ‹_›))⟩
   ·
    rw [if_neg c8] at H
    have q3 := beq_eq_false_iff_ne.mpr c8; have q4 := bne_iff_ne.mpr c8; have r1 : ¬ (b0 = []) := fun h_ => c8 (by rw [h_]; rfl); obtain ⟨y121, hy121⟩ : ∃ y_ : List (S34), y_ = (([(⟨3, 0, 0, 0, 0⟩ : S34)] : List (S34))) := ⟨_, rfl⟩
    conv at H => enter [1, 1, 5]; rw [← hy121]
    have Ny121 := yaa hy121; clear hy121; obtain ⟨⟨k5, k6, k7⟩, A40, H⟩ := bindA H; (try dsimp only at H); obtain ⟨b2, A41, H⟩ := bindA H; (try dsimp only at H)
    by_cases c42 : (b0.length : Int) = (b2.length : Int)
    ·
     rw [if_pos c42] at H
     have p1 := beq_iff_eq.mpr c42; have p2 := bne_eq_false_iff_eq.mpr c42
     have p3 : (b0.length == b2.length) = true := by first | simpa using c42 | (simp at c42 ⊢; omega)
     clear c42
     by_cases c43 : 1 ≤ (b0.length : Int)
     ·
      rw [if_pos c43] at H
      have q5 := eq_true c43; replace c43 := decide_eq_true c43; obtain ⟨y132, hy132⟩ : ∃ y_ : List Int, y_ = (b0.drop 1) := ⟨_, rfl⟩
      replace H : (if 1 ≤ (b2.length : Int) then ((laws_eaBytes.f y132 (b2.drop 1)).bind fun l2 => (if l2 = true then (if 0 < (b0.length : Int) then (if (rd b0 0) = 85 then (if 0 < (b2.length : Int) then (some ((rd b2 0) == 68)) else (none)) else (some false)) else (none)) else (some false))) else (none)) = some r := by first | (rw [hy132]; with_reducible exact H) | (have H2_ := (Option.bind_some _ _).symm.trans H; rw [hy132]; with_reducible exact H2_) | (have H2_ := (Option.bind_some _ _).symm.trans H; with_reducible exact H2_) | with_reducible exact H | (rw [hy132]; exact H) | exact H
      have Ny132 := yaa hy132; clear hy132
      by_cases c44 : 1 ≤ (b2.length : Int)
      ·
       rw [if_pos c44] at H
       have q6 := eq_true c44; replace c44 := decide_eq_true c44; obtain ⟨y136, hy136⟩ : ∃ y_ : List Int, y_ = (b2.drop 1) := ⟨_, rfl⟩
       conv at H => enter [1, 1, 2]; rw [← hy136]
       have Ny136 := yaa hy136; clear hy136; obtain ⟨l2, A45, H⟩ := bindA H; (try dsimp only at H)
       by_cases c46 : l2 = true
       ·
        subst c46
        rw [if_pos rfl] at H
        by_cases c47 : 0 < (b0.length : Int)
        ·
         rw [if_pos c47] at H
         have q7 : decide (0 < (b0.length : Int)) = true := decide_eq_true c47; have q8 : decide (0 < b0.length) = true := decide_eq_true (by omega); clear c47
         by_cases c48 : (rd b0 0) = 85
         ·
          rw [if_pos c48] at H
          have p4 := beq_iff_eq.mpr c48; have p5 := bne_eq_false_iff_eq.mpr c48; clear c48
          by_cases c49 : 0 < (b2.length : Int)
          ·
           rw [if_pos c49] at H
           have q9 : decide (0 < (b2.length : Int)) = true := decide_eq_true c49; have r0 : decide (0 < b2.length) = true := decide_eq_true (by omega); clear c49; obtain rfl := Option.some.inj H
           go_enter Try.func3, Try.ntmps3
           go_wp2_with (first | (go_at_call 4; (with_reducible refine (spec_DrawFormWrite.calls k _ _ l0 e3 b3 a7 a9 a8 _ ?side1 ?side2 A3.out).mono ?_); (case side1 => repeat (first | exact HR0.out | (with_reducible refine yag ?_ _) | (with_reducible refine yah ?_ _) | (with_reducible refine yak ?_))); (case side2 => exact HC0.out); rintro e w50 ⟨e4, e5, rfl, ho0, ho1, hb⟩; have a2 := yaa (yaw ho0 (yap (upH HB.out))); have a3 := yaa (Kd.Q_lower ho1 (yap (upH HB.out))); replace HB := yaa (yan (upH HB.out) hb); (try clear hb ho0 ho1)) | ((with_reducible refine gd_ 5 rfl ?_); (try (refine gate_guard (by rfl) ?_; dsimp only)); refine bx_ 5 rfl #[.int .i64 0, .int .i64 0, .slice none 0 0] 25 ?_; intro a4 hg w51 hbox hb; replace a2 := yaa (yaj (upR a2.out) hb); replace a3 := yaa (yaq (upQ a3.out) hb); have a1 := yaa (hbox); have b4 := yaa ((by rw [hg]; exact (yap (upH HB.out)) : w.heap.size ≤ a4)); replace HB := yaa (yan (upH HB.out) hb); have e0 := b4; clear hb hbox hg; obtain ⟨i7, i8, i9⟩ := cc3_ a1.out; obtain ⟨j0, j1, j2⟩ := cf3_ a1.out; obtain ⟨c6, b6, m3, _⟩ := Kd.Q_slice a3.out; subst m3; obtain ⟨m4, e9, m5⟩ := yax a2.out; subst m5) | (go_at_call 5; (with_reducible refine (impl_FormWrite.calls k 85 _ _ b3 a7 a9 _ _ a8 b0 _ ?side1 ?side2 ?side3 ?side4 A4.out).mono ?_); (case side1 => refine (yab (e := 5) (base := w.heap.size) (ok := fun k_ => True) (n := b3.length) (c := e9) ?_).2.2; exact (by (with_reducible repeat (first | apply yba | apply ybb | apply ybd)); exact (ybe (yam (p := ⟨a4, 2, none⟩) (yam (p := ⟨a4, 1, none⟩) (yam (p := ⟨a4, 0, none⟩) (ybc a2.out a1.out (by decide)) (fun _ hk => hk.2) (.int .i64 a7)) (fun _ hk => hk.2) (.int .i64 a9)) (fun _ hk => hk.2) (.slice c6 a8.length b6)) (fun _ h_ => h_.1)))); (case side2 => exact (yab a2.out).2.1); (case side3 => refine (yao (e := 53) (base := w.heap.size) (ok := fun k_ => True) (n := a8.length) (c := b6) ?_).2.2; exact (by (with_reducible repeat (first | apply ybf | apply ybg | apply ybi)); exact (ybj (yas (p := ⟨a4, 2, none⟩) (yas (p := ⟨a4, 1, none⟩) (yas (p := ⟨a4, 0, none⟩) (yat a3.out a1.out (by decide)) (fun _ hk => hk.2) (.int .i64 a7)) (fun _ hk => hk.2) (.int .i64 a9)) (fun _ hk => hk.2) (.slice c6 a8.length b6)) (fun _ h_ => h_.1)))); (case side4 => exact (yao a3.out).2.1); rintro e w55 ⟨e7, rfl, ho0, hb⟩; replace a3 := yaa (yaq (by (with_reducible repeat (first | apply ybf | apply ybg | apply ybi)); exact (ybj (yas (p := ⟨a4, 2, none⟩) (yas (p := ⟨a4, 1, none⟩) (yas (p := ⟨a4, 0, none⟩) (yat a3.out a1.out (by decide)) (fun _ hk => hk.2) (.int .i64 a7)) (fun _ hk => hk.2) (.int .i64 a9)) (fun _ hk => hk.2) (.slice c6 a8.length b6)) (fun _ h_ => h_.1))) hb); have a5 := yaa (yaw (yay ho0 (yaz (by (with_reducible repeat (first | apply yba | apply ybb | apply ybd)); exact (ybe (yam (p := ⟨a4, 2, none⟩) (yam (p := ⟨a4, 1, none⟩) (yam (p := ⟨a4, 0, none⟩) (ybc a2.out a1.out (by decide)) (fun _ hk => hk.2) (.int .i64 a7)) (fun _ hk => hk.2) (.int .i64 a9)) (fun _ hk => hk.2) (.slice c6 a8.length b6)) (fun _ h_ => h_.1))))) (yap (by repeat (with_reducible first | exact HB.out | apply yae | apply yac | apply yaf | refine yal ?_ (Aside0.out ‹_›))))); replace a2 := yaa (yar (by (with_reducible repeat (first | apply yba | apply ybb | apply ybd)); exact (ybe (yam (p := ⟨a4, 2, none⟩) (yam (p := ⟨a4, 1, none⟩) (yam (p := ⟨a4, 0, none⟩) (ybc a2.out a1.out (by decide)) (fun _ hk => hk.2) (.int .i64 a7)) (fun _ hk => hk.2) (.int .i64 a9)) (fun _ hk => hk.2) (.slice c6 a8.length b6)) (fun _ h_ => h_.1))) (yau ho0) hb); replace a1 := yaa (yav (g := a4) (o := .cells #[.int .i64 a7, .int .i64 a9, .slice c6 a8.length b6] 25 (0, 0)) (by (repeat refine oneB ?_); refine ybk (cs := #[.int .i64 a7, .int .i64 a9, .slice none 0 0]) ?_ 2 _ rfl; refine ybk (cs := #[.int .i64 a7, .int .i64 0, .slice none 0 0]) ?_ 1 _ rfl; refine ybk (cs := #[.int .i64 0, .int .i64 0, .slice none 0 0]) ?_ 0 _ rfl; exact upB a1.out) hb); replace HB := yaa (yan (by repeat (with_reducible first | exact HB.out | apply yae | apply yac | apply yaf | refine yal ?_ (Aside0.out ‹_›))) hb); (try clear hb ho0); obtain ⟨j3, j4, j5⟩ := cc3_ a1.out; obtain ⟨j6, j7⟩ := cf2_ a1.out; have j8 := ybh a1.out 2) | (go_at_call 7; (with_reducible refine (spec_FormWrite.calls k 85 _ _ b3 a7 a9 _ _ a8 b9 _ ?side1 ?side2 ?side3 ?side4 A5.out).mono ?_); (case side1 => repeat (first | exact (yab a2.out).2.2 | (with_reducible refine yag ?_ _) | (with_reducible refine yah ?_ _) | (with_reducible refine yak ?_))); (case side2 => exact (yab a2.out).2.1); (case side3 => repeat (first | exact (yao a3.out).2.2 | (with_reducible refine yag ?_ _) | (with_reducible refine yah ?_ _) | (with_reducible refine yak ?_))); (case side4 => exact (yao a3.out).2.1); rintro e w57 ⟨e8, rfl, ho0, hb⟩; replace a3 := yaa (yaq (upQ a3.out) hb); have a6 := yaa (yaw (yay (yay ho0 (yaz (upR a2.out))) (yaz (upR a5.out))) (yap (by repeat (with_reducible first | exact HB.out | apply yae | apply yac | apply yaf | refine yal ?_ (Aside0.out ‹_›))))); replace a2 := yaa (yar (upR a2.out) (yau ho0) hb); replace a5 := yaa (yar (upR a5.out) (yau ho0) hb); replace a1 := yaa (yav (upB a1.out) hb); replace HB := yaa (yan (by repeat (with_reducible first | exact HB.out | apply yae | apply yac | apply yaf | refine yal ?_ (Aside0.out ‹_›))) hb); (try clear hb ho0); obtain ⟨d6, d4, m6⟩ := yax a5.out; subst m6; obtain ⟨m7, m8, m9⟩ := yax a6.out; subst m9) | (go_at_call 6; (with_reducible refine (laws_eaBytes.calls _ _ b0 _ _ b9 true _ ?side1 ?side2 ?side3 ?side4 A6.out).mono ?_); (case side1 => repeat (first | exact (yab a5.out).2.2 | (with_reducible refine yag ?_ _) | (with_reducible refine yah ?_ _) | (with_reducible refine yak ?_))); (case side2 => exact (yab a5.out).2.1); (case side3 => repeat (first | exact (yab a6.out).2.2 | (with_reducible refine yag ?_ _) | (with_reducible refine yah ?_ _) | (with_reducible refine yak ?_))); (case side4 => exact (yab a6.out).2.1); rintro e w' ⟨rfl, ⟨nd, rfl⟩⟩; (try first | exact ⟨rfl, _, World.drewN_drewN _ _ _⟩ | exact ⟨rfl, _, Eq.trans (World.drewN_drewN _ _ _) (congrArg (World.drewN _) (Nat.add_assoc _ _ _))⟩); obtain ⟨j9, k0, k1⟩ := cc3_ a1.out; obtain ⟨k2, k3⟩ := cf2_ a1.out; have k4 := ybh a1.out 2) | ((with_reducible refine gd_ 43 rfl ?_); (try (refine gate_guard (by rfl) ?_; dsimp only)); refine Kd.R_lit k34 _ 34 ?hg (N := 43) ?hd (xs := ([(⟨3, 0, 0, 0, 0⟩ : S34)] : List (S34))) (inner := [.int .i64 3, .int .i64 0, .int .i64 0, .int .i64 0, .int .i64 0]) (ok := fun _ => True) (okp := fun _ => True) ?hr ?hp (fun _ hk => hk) trivial (Below.refl _ _) (Nat.le_refl _) (by simp) ?_; (case hd => rfl); (case hg => rfl); (case hr => first | (go_simp; done) | (go_simp; rfl)); (case hp => exact (Reps.c5 (show Kd.M k34 _ _ _ (⟨3, 0, 0, 0, 0⟩ : S34) [.int .i64 3, .int .i64 0, .int .i64 0, .int .i64 0, .int .i64 0] from (k34_mkM _ _ _ (⟨3, 0, 0, 0, 0⟩ : S34) )) (Reps.none _ _))); intro p6 w61 d7 hb hg_ hnew_; clear hg_ hnew_; (first | rw [← Ny121.out] at d7 | (simp only [Int.reduceToNat] at d7; rw [← Ny121.out] at d7)); replace a2 := yaa (yaj (upR a2.out) hb); replace a3 := yaa (yaq (upQ a3.out) hb); replace a5 := yaa (yaj (upR a5.out) hb); replace a6 := yaa (yaj (upR a6.out) hb); have b1 := yaa (yaw d7 (yap (by repeat (with_reducible first | exact HB.out | apply yae | apply yac | apply yaf | refine yal ?_ (Aside0.out ‹_›))))); replace a1 := yaa (yav (upB a1.out) hb); replace HB := yaa (yan (by repeat (with_reducible first | exact HB.out | apply yae | apply yac | apply yaf | refine yal ?_ (Aside0.out ‹_›))) hb); clear hb d7; obtain ⟨n0, n1, n2⟩ := yax b1.out; subst n2) | (go_at_call 10; (with_reducible refine (laws_eaDo.calls k a7 a9 (fun k_ => some k_ = (.slice c6 a8.length b6 : Value).ownBlock) _ _ a8 _ _ y121 k5 k6 k7 _ ?side1 ?side2 ?side3 A40.out).mono ?_); (case side1 => exact Kd.Q_V (Kd.Q_tight rfl (yat (yad (yad (yad (yad (a3.out) (yai a2.out) (by decide)) (yai a5.out) (by decide)) (yai a6.out) (by decide)) (yai b1.out) (by decide)) a1.out (by decide)))); (case side2 => repeat (first | exact (yab b1.out).2.2 | (with_reducible refine yag ?_ _) | (with_reducible refine yah ?_ _) | (with_reducible refine yak ?_))); (case side3 => exact (yab b1.out).2.1); rintro e w64 ⟨p7, rfl, ho0, hb⟩; have b7 := yaa (Kd.V_lower (Kd.V_mono (ok' := fun k_ => some k_ ≠ (.slice m4 b3.length e9 : Value).ownBlock ∧ some k_ ≠ (.slice d6 b0.length d4 : Value).ownBlock ∧ some k_ ≠ (.slice m7 b9.length m8 : Value).ownBlock ∧ some k_ ≠ (.slice n0 y121.length n1 : Value).ownBlock ∧ k_ ≠ a4) ho0 (fun k_ hk_ => ⟨Or.elim hk_ (fun hs_ => ((yat (yad (yad (yad (yad (a3.out) (yai a2.out) (by decide)) (yai a5.out) (by decide)) (yai a6.out) (by decide)) (yai b1.out) (by decide)) a1.out (by decide)).1 k_ hs_.symm).1.1.1.1.2) (fun hn_ => (Kd.fresh' (yaz (upR a2.out)) k_ hn_)), Or.elim hk_ (fun hs_ => ((yat (yad (yad (yad (yad (a3.out) (yai a2.out) (by decide)) (yai a5.out) (by decide)) (yai a6.out) (by decide)) (yai b1.out) (by decide)) a1.out (by decide)).1 k_ hs_.symm).1.1.1.2) (fun hn_ => (Kd.fresh' (yaz (upR a5.out)) k_ hn_)), Or.elim hk_ (fun hs_ => ((yat (yad (yad (yad (yad (a3.out) (yai a2.out) (by decide)) (yai a5.out) (by decide)) (yai a6.out) (by decide)) (yai b1.out) (by decide)) a1.out (by decide)).1 k_ hs_.symm).1.1.2) (fun hn_ => (Kd.fresh' (yaz (upR a6.out)) k_ hn_)), Or.elim hk_ (fun hs_ => ((yat (yad (yad (yad (yad (a3.out) (yai a2.out) (by decide)) (yai a5.out) (by decide)) (yai a6.out) (by decide)) (yai b1.out) (by decide)) a1.out (by decide)).1 k_ hs_.symm).1.2) (fun hn_ => (Kd.fresh' (yaz (upR b1.out)) k_ hn_)), Or.elim hk_ (fun hs_ => ((yat (yad (yad (yad (yad (a3.out) (yai a2.out) (by decide)) (yai a5.out) (by decide)) (yai a6.out) (by decide)) (yai b1.out) (by decide)) a1.out (by decide)).1 k_ hs_.symm).2) (fun hn_ => (Kd.freshB (upB a1.out) k_ hn_))⟩)) (yap (by repeat (with_reducible first | exact HB.out | apply yae | apply yac | apply yaf | refine yal ?_ (Aside0.out ‹_›))))); replace a2 := yaa (yaj (upR a2.out) hb); replace a3 := yaa (yaq (upQ a3.out) hb); replace a5 := yaa (yaj (upR a5.out) hb); replace a6 := yaa (yaj (upR a6.out) hb); replace b1 := yaa (yaj (upR b1.out) hb); replace a1 := yaa (yav (upB a1.out) hb); replace HB := yaa (yan (by repeat (with_reducible first | exact HB.out | apply yae | apply yac | apply yaf | refine yal ?_ (Aside0.out ‹_›))) hb); (try clear hb ho0); obtain ⟨p8, p9, n3⟩ := Kd.V_slice b7.out; subst n3) | (go_at_call 5; (with_reducible refine (impl_FormWrite.calls k 68 _ _ b3 k5 k6 _ _ k7 b2 _ ?side1 ?side2 ?side3 ?side4 A41.out).mono ?_); (case side1 => repeat (first | exact (yab a2.out).2.2 | (with_reducible refine yag ?_ _) | (with_reducible refine yah ?_ _) | (with_reducible refine yak ?_))); (case side2 => exact (yab a2.out).2.1); (case side3 => repeat (first | exact (Kd.V_reads' b7.out).2.2 | (with_reducible refine yag ?_ _) | (with_reducible refine yah ?_ _) | (with_reducible refine yak ?_))); (case side4 => exact (Kd.V_reads' b7.out).2.1); rintro e w66 ⟨q0, rfl, ho0, hb⟩; replace a3 := yaa (yaq (upQ a3.out) hb); replace b1 := yaa (yaj (upR b1.out) hb); replace b7 := yaa (Kd.V_elder' (upV b7.out) (yau ho0) hb); have c9 := yaa (yaw (yay (yay (yay ho0 (yaz (upR a2.out))) (yaz (upR a5.out))) (yaz (upR a6.out))) (yap (by repeat (with_reducible first | exact HB.out | apply yae | apply yac | apply yaf | refine yal ?_ (Aside0.out ‹_›))))); replace a2 := yaa (yar (upR a2.out) (yau ho0) hb); replace a5 := yaa (yar (upR a5.out) (yau ho0) hb); replace a6 := yaa (yar (upR a6.out) (yau ho0) hb); replace a1 := yaa (yav (upB a1.out) hb); replace HB := yaa (yan (by repeat (with_reducible first | exact HB.out | apply yae | apply yac | apply yaf | refine yal ?_ (Aside0.out ‹_›))) hb); (try clear hb ho0); obtain ⟨d9, d8, n4⟩ := yax c9.out; subst n4; have q68 : (1 : Int) ≤ ((b0.length : Int) : Int) := of_decide_eq_true (by assumption); obtain ⟨i068, hi068, _, e1, _⟩ := info_parts info5; have hroom68 : b0.length ≤ d4 := (yab a5.out).2.1; have hC68 : Kd.C (Kd.int .u8) _ d6 b0.length b0 := (yab a5.out).2.2; have hcut68 := cut_from (P := Try.prog) 22 5 .i64 Try.underlying22 hi068 1 e1 d6 b0.length d4 1 (by omega) q68; have hr68 := Kd.C_drop (m := (1 : Int).toNat) (c := d4) hC68 (by omega) hroom68; obtain ⟨A68, hA68⟩ : ∃ A1, A1 = (if d4 = (1 : Int).toNat then d6 else (d6 : Option Addr).map (·.add ((1 : Int).toNat * 1))) := ⟨_, rfl⟩; obtain ⟨c68, hc68⟩ : ∃ c1, c1 = d4 - (1 : Int).toNat := ⟨_, rfl⟩; have hy68 : y132.length = b0.length - (1 : Int).toNat := (by rw [Ny132.out, List.length_drop] <;> omega); rw [show (b0).drop (1 : Int).toNat = y132 from Ny132.out.symm] at hr68; replace hr68 : Kd.C (Kd.int .u8) _ A68 y132.length y132 := (by rw [hA68]; exact hr68); rw [← hy68, ← hA68, ← hc68] at hcut68; have HR135 := yaa hr68; have HC135 := yaa (show y132.length ≤ c68 from by rw [hy68, hc68]; exact Nat.sub_le_sub_right hroom68 _); clear hr68 hC68 hroom68 hi068 e1 hc68; have KY68 := yaa hy68; have KA68 := yaa hA68; clear hy68 hA68; have KL68 := yaa (show 1 ≤ b0.length from by omega); replace q68 := eq_true q68; have q69 : (1 : Int) ≤ ((b2.length : Int) : Int) := of_decide_eq_true (by assumption); obtain ⟨i069, hi069, _, e2, _⟩ := info_parts info5; have hroom69 : b2.length ≤ d8 := (yab c9.out).2.1; have hC69 : Kd.C (Kd.int .u8) _ d9 b2.length b2 := (yab c9.out).2.2; have hcut69 := cut_from (P := Try.prog) 22 5 .i64 Try.underlying22 hi069 1 e2 d9 b2.length d8 1 (by omega) q69; have hr69 := Kd.C_drop (m := (1 : Int).toNat) (c := d8) hC69 (by omega) hroom69; obtain ⟨A69, hA69⟩ : ∃ A1, A1 = (if d8 = (1 : Int).toNat then d9 else (d9 : Option Addr).map (·.add ((1 : Int).toNat * 1))) := ⟨_, rfl⟩; obtain ⟨c69, hc69⟩ : ∃ c1, c1 = d8 - (1 : Int).toNat := ⟨_, rfl⟩; have hy69 : y136.length = b2.length - (1 : Int).toNat := (by rw [Ny136.out, List.length_drop] <;> omega); rw [show (b2).drop (1 : Int).toNat = y136 from Ny136.out.symm] at hr69; replace hr69 : Kd.C (Kd.int .u8) _ A69 y136.length y136 := (by rw [hA69]; exact hr69); rw [← hy69, ← hA69, ← hc69] at hcut69; have HR139 := yaa hr69; have HC139 := yaa (show y136.length ≤ c69 from by rw [hy69, hc69]; exact Nat.sub_le_sub_right hroom69 _); clear hr69 hC69 hroom69 hi069 e2 hc69; have KY69 := yaa hy69; have KA69 := yaa hA69; clear hy69 hA69; have KL69 := yaa (show 1 ≤ b2.length from by omega); replace q69 := eq_true q69) | (go_at_call 6; (with_reducible refine (laws_eaBytes.calls _ _ y132 _ _ y136 true _ ?side1 ?side2 ?side3 ?side4 A45.out).mono ?_); (case side1 => repeat (first | exact (by repeat (first | (with_reducible exact HR135.out) | (with_reducible refine yag ?_ _) | (with_reducible refine yah ?_ _) | (with_reducible refine yak ?_) | exact HR135.out)) | (with_reducible refine yag ?_ _) | (with_reducible refine yah ?_ _) | (with_reducible refine yak ?_))); (case side2 => exact HC135.out); (case side3 => repeat (first | exact (by repeat (first | (with_reducible exact HR139.out) | (with_reducible refine yag ?_ _) | (with_reducible refine yah ?_ _) | (with_reducible refine yak ?_) | exact HR139.out)) | (with_reducible refine yag ?_ _) | (with_reducible refine yah ?_ _) | (with_reducible refine yak ?_))); (case side4 => exact HC139.out); rintro e w' ⟨rfl, ⟨nd, rfl⟩⟩; (try first | exact ⟨rfl, _, World.drewN_drewN _ _ _⟩ | exact ⟨rfl, _, Eq.trans (World.drewN_drewN _ _ _) (congrArg (World.drewN _) (Nat.add_assoc _ _ _))⟩); have p141 : 0 ≤ (0 : Int) := (by omega); have q141 : 0 < (b0.length : Int) := of_decide_eq_true (by assumption); obtain ⟨ad141, n5, d0⟩ := Kd.at_int (yab a5.out).2.2 0 p141 q141; cases n5; have qi141 : (0 < b0.length) = True := eq_true (by omega); (try rw [show ((0 : Int)).toNat = 0 from rfl] at d0); (try rw [Addr.add_zero'] at d0); replace p141 := eq_true p141; replace q141 := eq_true q141; have p142 : 0 ≤ (0 : Int) := (by omega); have q142 : 0 < (b2.length : Int) := of_decide_eq_true (by assumption); obtain ⟨ad142, n6, d1⟩ := Kd.at_int (yab c9.out).2.2 0 p142 q142; cases n6; have qi142 : (0 < b2.length) = True := eq_true (by omega); (try rw [show ((0 : Int)).toNat = 0 from rfl] at d1); (try rw [Addr.add_zero'] at d1); replace p142 := eq_true p142; replace q142 := eq_true q142))
           repeat (go_quiet (first | (go_at_call 4; (with_reducible refine (spec_DrawFormWrite.calls k _ _ l0 e3 b3 a7 a9 a8 _ ?side1 ?side2 A3.out).mono ?_); (case side1 => repeat (first | exact HR0.out | (with_reducible refine yag ?_ _) | (with_reducible refine yah ?_ _) | (with_reducible refine yak ?_))); (case side2 => exact HC0.out); rintro e w50 ⟨e4, e5, rfl, ho0, ho1, hb⟩; have a2 := yaa (yaw ho0 (yap (upH HB.out))); have a3 := yaa (Kd.Q_lower ho1 (yap (upH HB.out))); replace HB := yaa (yan (upH HB.out) hb); (try clear hb ho0 ho1)) | ((with_reducible refine gd_ 5 rfl ?_); (try (refine gate_guard (by rfl) ?_; dsimp only)); refine bx_ 5 rfl #[.int .i64 0, .int .i64 0, .slice none 0 0] 25 ?_; intro a4 hg w51 hbox hb; replace a2 := yaa (yaj (upR a2.out) hb); replace a3 := yaa (yaq (upQ a3.out) hb); have a1 := yaa (hbox); have b4 := yaa ((by rw [hg]; exact (yap (upH HB.out)) : w.heap.size ≤ a4)); replace HB := yaa (yan (upH HB.out) hb); have e0 := b4; clear hb hbox hg; obtain ⟨i7, i8, i9⟩ := cc3_ a1.out; obtain ⟨j0, j1, j2⟩ := cf3_ a1.out; obtain ⟨c6, b6, m3, _⟩ := Kd.Q_slice a3.out; subst m3; obtain ⟨m4, e9, m5⟩ := yax a2.out; subst m5) | (go_at_call 5; (with_reducible refine (impl_FormWrite.calls k 85 _ _ b3 a7 a9 _ _ a8 b0 _ ?side1 ?side2 ?side3 ?side4 A4.out).mono ?_); (case side1 => refine (yab (e := 5) (base := w.heap.size) (ok := fun k_ => True) (n := b3.length) (c := e9) ?_).2.2; exact (by (with_reducible repeat (first | apply yba | apply ybb | apply ybd)); exact (ybe (yam (p := ⟨a4, 2, none⟩) (yam (p := ⟨a4, 1, none⟩) (yam (p := ⟨a4, 0, none⟩) (ybc a2.out a1.out (by decide)) (fun _ hk => hk.2) (.int .i64 a7)) (fun _ hk => hk.2) (.int .i64 a9)) (fun _ hk => hk.2) (.slice c6 a8.length b6)) (fun _ h_ => h_.1)))); (case side2 => exact (yab a2.out).2.1); (case side3 => refine (yao (e := 53) (base := w.heap.size) (ok := fun k_ => True) (n := a8.length) (c := b6) ?_).2.2; exact (by (with_reducible repeat (first | apply ybf | apply ybg | apply ybi)); exact (ybj (yas (p := ⟨a4, 2, none⟩) (yas (p := ⟨a4, 1, none⟩) (yas (p := ⟨a4, 0, none⟩) (yat a3.out a1.out (by decide)) (fun _ hk => hk.2) (.int .i64 a7)) (fun _ hk => hk.2) (.int .i64 a9)) (fun _ hk => hk.2) (.slice c6 a8.length b6)) (fun _ h_ => h_.1)))); (case side4 => exact (yao a3.out).2.1); rintro e w55 ⟨e7, rfl, ho0, hb⟩; replace a3 := yaa (yaq (by (with_reducible repeat (first | apply ybf | apply ybg | apply ybi)); exact (ybj (yas (p := ⟨a4, 2, none⟩) (yas (p := ⟨a4, 1, none⟩) (yas (p := ⟨a4, 0, none⟩) (yat a3.out a1.out (by decide)) (fun _ hk => hk.2) (.int .i64 a7)) (fun _ hk => hk.2) (.int .i64 a9)) (fun _ hk => hk.2) (.slice c6 a8.length b6)) (fun _ h_ => h_.1))) hb); have a5 := yaa (yaw (yay ho0 (yaz (by (with_reducible repeat (first | apply yba | apply ybb | apply ybd)); exact (ybe (yam (p := ⟨a4, 2, none⟩) (yam (p := ⟨a4, 1, none⟩) (yam (p := ⟨a4, 0, none⟩) (ybc a2.out a1.out (by decide)) (fun _ hk => hk.2) (.int .i64 a7)) (fun _ hk => hk.2) (.int .i64 a9)) (fun _ hk => hk.2) (.slice c6 a8.length b6)) (fun _ h_ => h_.1))))) (yap (by repeat (with_reducible first | exact HB.out | apply yae | apply yac | apply yaf | refine yal ?_ (Aside0.out ‹_›))))); replace a2 := yaa (yar (by (with_reducible repeat (first | apply yba | apply ybb | apply ybd)); exact (ybe (yam (p := ⟨a4, 2, none⟩) (yam (p := ⟨a4, 1, none⟩) (yam (p := ⟨a4, 0, none⟩) (ybc a2.out a1.out (by decide)) (fun _ hk => hk.2) (.int .i64 a7)) (fun _ hk => hk.2) (.int .i64 a9)) (fun _ hk => hk.2) (.slice c6 a8.length b6)) (fun _ h_ => h_.1))) (yau ho0) hb); replace a1 := yaa (yav (g := a4) (o := .cells #[.int .i64 a7, .int .i64 a9, .slice c6 a8.length b6] 25 (0, 0)) (by (repeat refine oneB ?_); refine ybk (cs := #[.int .i64 a7, .int .i64 a9, .slice none 0 0]) ?_ 2 _ rfl; refine ybk (cs := #[.int .i64 a7, .int .i64 0, .slice none 0 0]) ?_ 1 _ rfl; refine ybk (cs := #[.int .i64 0, .int .i64 0, .slice none 0 0]) ?_ 0 _ rfl; exact upB a1.out) hb); replace HB := yaa (yan (by repeat (with_reducible first | exact HB.out | apply yae | apply yac | apply yaf | refine yal ?_ (Aside0.out ‹_›))) hb); (try clear hb ho0); obtain ⟨j3, j4, j5⟩ := cc3_ a1.out; obtain ⟨j6, j7⟩ := cf2_ a1.out; have j8 := ybh a1.out 2) | (go_at_call 7; (with_reducible refine (spec_FormWrite.calls k 85 _ _ b3 a7 a9 _ _ a8 b9 _ ?side1 ?side2 ?side3 ?side4 A5.out).mono ?_); (case side1 => repeat (first | exact (yab a2.out).2.2 | (with_reducible refine yag ?_ _) | (with_reducible refine yah ?_ _) | (with_reducible refine yak ?_))); (case side2 => exact (yab a2.out).2.1); (case side3 => repeat (first | exact (yao a3.out).2.2 | (with_reducible refine yag ?_ _) | (with_reducible refine yah ?_ _) | (with_reducible refine yak ?_))); (case side4 => exact (yao a3.out).2.1); rintro e w57 ⟨e8, rfl, ho0, hb⟩; replace a3 := yaa (yaq (upQ a3.out) hb); have a6 := yaa (yaw (yay (yay ho0 (yaz (upR a2.out))) (yaz (upR a5.out))) (yap (by repeat (with_reducible first | exact HB.out | apply yae | apply yac | apply yaf | refine yal ?_ (Aside0.out ‹_›))))); replace a2 := yaa (yar (upR a2.out) (yau ho0) hb); replace a5 := yaa (yar (upR a5.out) (yau ho0) hb); replace a1 := yaa (yav (upB a1.out) hb); replace HB := yaa (yan (by repeat (with_reducible first | exact HB.out | apply yae | apply yac | apply yaf | refine yal ?_ (Aside0.out ‹_›))) hb); (try clear hb ho0); obtain ⟨d6, d4, m6⟩ := yax a5.out; subst m6; obtain ⟨m7, m8, m9⟩ := yax a6.out; subst m9) | (go_at_call 6; (with_reducible refine (laws_eaBytes.calls _ _ b0 _ _ b9 true _ ?side1 ?side2 ?side3 ?side4 A6.out).mono ?_); (case side1 => repeat (first | exact (yab a5.out).2.2 | (with_reducible refine yag ?_ _) | (with_reducible refine yah ?_ _) | (with_reducible refine yak ?_))); (case side2 => exact (yab a5.out).2.1); (case side3 => repeat (first | exact (yab a6.out).2.2 | (with_reducible refine yag ?_ _) | (with_reducible refine yah ?_ _) | (with_reducible refine yak ?_))); (case side4 => exact (yab a6.out).2.1); rintro e w' ⟨rfl, ⟨nd, rfl⟩⟩; (try first | exact ⟨rfl, _, World.drewN_drewN _ _ _⟩ | exact ⟨rfl, _, Eq.trans (World.drewN_drewN _ _ _) (congrArg (World.drewN _) (Nat.add_assoc _ _ _))⟩); obtain ⟨j9, k0, k1⟩ := cc3_ a1.out; obtain ⟨k2, k3⟩ := cf2_ a1.out; have k4 := ybh a1.out 2) | ((with_reducible refine gd_ 43 rfl ?_); (try (refine gate_guard (by rfl) ?_; dsimp only)); refine Kd.R_lit k34 _ 34 ?hg (N := 43) ?hd (xs := ([(⟨3, 0, 0, 0, 0⟩ : S34)] : List (S34))) (inner := [.int .i64 3, .int .i64 0, .int .i64 0, .int .i64 0, .int .i64 0]) (ok := fun _ => True) (okp := fun _ => True) ?hr ?hp (fun _ hk => hk) trivial (Below.refl _ _) (Nat.le_refl _) (by simp) ?_; (case hd => rfl); (case hg => rfl); (case hr => first | (go_simp; done) | (go_simp; rfl)); (case hp => exact (Reps.c5 (show Kd.M k34 _ _ _ (⟨3, 0, 0, 0, 0⟩ : S34) [.int .i64 3, .int .i64 0, .int .i64 0, .int .i64 0, .int .i64 0] from (k34_mkM _ _ _ (⟨3, 0, 0, 0, 0⟩ : S34) )) (Reps.none _ _))); intro p6 w61 d7 hb hg_ hnew_; clear hg_ hnew_; (first | rw [← Ny121.out] at d7 | (simp only [Int.reduceToNat] at d7; rw [← Ny121.out] at d7)); replace a2 := yaa (yaj (upR a2.out) hb); replace a3 := yaa (yaq (upQ a3.out) hb); replace a5 := yaa (yaj (upR a5.out) hb); replace a6 := yaa (yaj (upR a6.out) hb); have b1 := yaa (yaw d7 (yap (by repeat (with_reducible first | exact HB.out | apply yae | apply yac | apply yaf | refine yal ?_ (Aside0.out ‹_›))))); replace a1 := yaa (yav (upB a1.out) hb); replace HB := yaa (yan (by repeat (with_reducible first | exact HB.out | apply yae | apply yac | apply yaf | refine yal ?_ (Aside0.out ‹_›))) hb); clear hb d7; obtain ⟨n0, n1, n2⟩ := yax b1.out; subst n2) | (go_at_call 10; (with_reducible refine (laws_eaDo.calls k a7 a9 (fun k_ => some k_ = (.slice c6 a8.length b6 : Value).ownBlock) _ _ a8 _ _ y121 k5 k6 k7 _ ?side1 ?side2 ?side3 A40.out).mono ?_); (case side1 => exact Kd.Q_V (Kd.Q_tight rfl (yat (yad (yad (yad (yad (a3.out) (yai a2.out) (by decide)) (yai a5.out) (by decide)) (yai a6.out) (by decide)) (yai b1.out) (by decide)) a1.out (by decide)))); (case side2 => repeat (first | exact (yab b1.out).2.2 | (with_reducible refine yag ?_ _) | (with_reducible refine yah ?_ _) | (with_reducible refine yak ?_))); (case side3 => exact (yab b1.out).2.1); rintro e w64 ⟨p7, rfl, ho0, hb⟩; have b7 := yaa (Kd.V_lower (Kd.V_mono (ok' := fun k_ => some k_ ≠ (.slice m4 b3.length e9 : Value).ownBlock ∧ some k_ ≠ (.slice d6 b0.length d4 : Value).ownBlock ∧ some k_ ≠ (.slice m7 b9.length m8 : Value).ownBlock ∧ some k_ ≠ (.slice n0 y121.length n1 : Value).ownBlock ∧ k_ ≠ a4) ho0 (fun k_ hk_ => ⟨Or.elim hk_ (fun hs_ => ((yat (yad (yad (yad (yad (a3.out) (yai a2.out) (by decide)) (yai a5.out) (by decide)) (yai a6.out) (by decide)) (yai b1.out) (by decide)) a1.out (by decide)).1 k_ hs_.symm).1.1.1.1.2) (fun hn_ => (Kd.fresh' (yaz (upR a2.out)) k_ hn_)), Or.elim hk_ (fun hs_ => ((yat (yad (yad (yad (yad (a3.out) (yai a2.out) (by decide)) (yai a5.out) (by decide)) (yai a6.out) (by decide)) (yai b1.out) (by decide)) a1.out (by decide)).1 k_ hs_.symm).1.1.1.2) (fun hn_ => (Kd.fresh' (yaz (upR a5.out)) k_ hn_)), Or.elim hk_ (fun hs_ => ((yat (yad (yad (yad (yad (a3.out) (yai a2.out) (by decide)) (yai a5.out) (by decide)) (yai a6.out) (by decide)) (yai b1.out) (by decide)) a1.out (by decide)).1 k_ hs_.symm).1.1.2) (fun hn_ => (Kd.fresh' (yaz (upR a6.out)) k_ hn_)), Or.elim hk_ (fun hs_ => ((yat (yad (yad (yad (yad (a3.out) (yai a2.out) (by decide)) (yai a5.out) (by decide)) (yai a6.out) (by decide)) (yai b1.out) (by decide)) a1.out (by decide)).1 k_ hs_.symm).1.2) (fun hn_ => (Kd.fresh' (yaz (upR b1.out)) k_ hn_)), Or.elim hk_ (fun hs_ => ((yat (yad (yad (yad (yad (a3.out) (yai a2.out) (by decide)) (yai a5.out) (by decide)) (yai a6.out) (by decide)) (yai b1.out) (by decide)) a1.out (by decide)).1 k_ hs_.symm).2) (fun hn_ => (Kd.freshB (upB a1.out) k_ hn_))⟩)) (yap (by repeat (with_reducible first | exact HB.out | apply yae | apply yac | apply yaf | refine yal ?_ (Aside0.out ‹_›))))); replace a2 := yaa (yaj (upR a2.out) hb); replace a3 := yaa (yaq (upQ a3.out) hb); replace a5 := yaa (yaj (upR a5.out) hb); replace a6 := yaa (yaj (upR a6.out) hb); replace b1 := yaa (yaj (upR b1.out) hb); replace a1 := yaa (yav (upB a1.out) hb); replace HB := yaa (yan (by repeat (with_reducible first | exact HB.out | apply yae | apply yac | apply yaf | refine yal ?_ (Aside0.out ‹_›))) hb); (try clear hb ho0); obtain ⟨p8, p9, n3⟩ := Kd.V_slice b7.out; subst n3) | (go_at_call 5; (with_reducible refine (impl_FormWrite.calls k 68 _ _ b3 k5 k6 _ _ k7 b2 _ ?side1 ?side2 ?side3 ?side4 A41.out).mono ?_); (case side1 => repeat (first | exact (yab a2.out).2.2 | (with_reducible refine yag ?_ _) | (with_reducible refine yah ?_ _) | (with_reducible refine yak ?_))); (case side2 => exact (yab a2.out).2.1); (case side3 => repeat (first | exact (Kd.V_reads' b7.out).2.2 | (with_reducible refine yag ?_ _) | (with_reducible refine yah ?_ _) | (with_reducible refine yak ?_))); (case side4 => exact (Kd.V_reads' b7.out).2.1); rintro e w66 ⟨q0, rfl, ho0, hb⟩; replace a3 := yaa (yaq (upQ a3.out) hb); replace b1 := yaa (yaj (upR b1.out) hb); replace b7 := yaa (Kd.V_elder' (upV b7.out) (yau ho0) hb); have c9 := yaa (yaw (yay (yay (yay ho0 (yaz (upR a2.out))) (yaz (upR a5.out))) (yaz (upR a6.out))) (yap (by repeat (with_reducible first | exact HB.out | apply yae | apply yac | apply yaf | refine yal ?_ (Aside0.out ‹_›))))); replace a2 := yaa (yar (upR a2.out) (yau ho0) hb); replace a5 := yaa (yar (upR a5.out) (yau ho0) hb); replace a6 := yaa (yar (upR a6.out) (yau ho0) hb); replace a1 := yaa (yav (upB a1.out) hb); replace HB := yaa (yan (by repeat (with_reducible first | exact HB.out | apply yae | apply yac | apply yaf | refine yal ?_ (Aside0.out ‹_›))) hb); (try clear hb ho0); obtain ⟨d9, d8, n4⟩ := yax c9.out; subst n4; have q68 : (1 : Int) ≤ ((b0.length : Int) : Int) := of_decide_eq_true (by assumption); obtain ⟨i068, hi068, _, e1, _⟩ := info_parts info5; have hroom68 : b0.length ≤ d4 := (yab a5.out).2.1; have hC68 : Kd.C (Kd.int .u8) _ d6 b0.length b0 := (yab a5.out).2.2; have hcut68 := cut_from (P := Try.prog) 22 5 .i64 Try.underlying22 hi068 1 e1 d6 b0.length d4 1 (by omega) q68; have hr68 := Kd.C_drop (m := (1 : Int).toNat) (c := d4) hC68 (by omega) hroom68; obtain ⟨A68, hA68⟩ : ∃ A1, A1 = (if d4 = (1 : Int).toNat then d6 else (d6 : Option Addr).map (·.add ((1 : Int).toNat * 1))) := ⟨_, rfl⟩; obtain ⟨c68, hc68⟩ : ∃ c1, c1 = d4 - (1 : Int).toNat := ⟨_, rfl⟩; have hy68 : y132.length = b0.length - (1 : Int).toNat := (by rw [Ny132.out, List.length_drop] <;> omega); rw [show (b0).drop (1 : Int).toNat = y132 from Ny132.out.symm] at hr68; replace hr68 : Kd.C (Kd.int .u8) _ A68 y132.length y132 := (by rw [hA68]; exact hr68); rw [← hy68, ← hA68, ← hc68] at hcut68; have HR135 := yaa hr68; have HC135 := yaa (show y132.length ≤ c68 from by rw [hy68, hc68]; exact Nat.sub_le_sub_right hroom68 _); clear hr68 hC68 hroom68 hi068 e1 hc68; have KY68 := yaa hy68; have KA68 := yaa hA68; clear hy68 hA68; have KL68 := yaa (show 1 ≤ b0.length from by omega); replace q68 := eq_true q68; have q69 : (1 : Int) ≤ ((b2.length : Int) : Int) := of_decide_eq_true (by assumption); obtain ⟨i069, hi069, _, e2, _⟩ := info_parts info5; have hroom69 : b2.length ≤ d8 := (yab c9.out).2.1; have hC69 : Kd.C (Kd.int .u8) _ d9 b2.length b2 := (yab c9.out).2.2; have hcut69 := cut_from (P := Try.prog) 22 5 .i64 Try.underlying22 hi069 1 e2 d9 b2.length d8 1 (by omega) q69; have hr69 := Kd.C_drop (m := (1 : Int).toNat) (c := d8) hC69 (by omega) hroom69; obtain ⟨A69, hA69⟩ : ∃ A1, A1 = (if d8 = (1 : Int).toNat then d9 else (d9 : Option Addr).map (·.add ((1 : Int).toNat * 1))) := ⟨_, rfl⟩; obtain ⟨c69, hc69⟩ : ∃ c1, c1 = d8 - (1 : Int).toNat := ⟨_, rfl⟩; have hy69 : y136.length = b2.length - (1 : Int).toNat := (by rw [Ny136.out, List.length_drop] <;> omega); rw [show (b2).drop (1 : Int).toNat = y136 from Ny136.out.symm] at hr69; replace hr69 : Kd.C (Kd.int .u8) _ A69 y136.length y136 := (by rw [hA69]; exact hr69); rw [← hy69, ← hA69, ← hc69] at hcut69; have HR139 := yaa hr69; have HC139 := yaa (show y136.length ≤ c69 from by rw [hy69, hc69]; exact Nat.sub_le_sub_right hroom69 _); clear hr69 hC69 hroom69 hi069 e2 hc69; have KY69 := yaa hy69; have KA69 := yaa hA69; clear hy69 hA69; have KL69 := yaa (show 1 ≤ b2.length from by omega); replace q69 := eq_true q69) | (go_at_call 6; (with_reducible refine (laws_eaBytes.calls _ _ y132 _ _ y136 true _ ?side1 ?side2 ?side3 ?side4 A45.out).mono ?_); (case side1 => repeat (first | exact (by repeat (first | (with_reducible exact HR135.out) | (with_reducible refine yag ?_ _) | (with_reducible refine yah ?_ _) | (with_reducible refine yak ?_) | exact HR135.out)) | (with_reducible refine yag ?_ _) | (with_reducible refine yah ?_ _) | (with_reducible refine yak ?_))); (case side2 => exact HC135.out); (case side3 => repeat (first | exact (by repeat (first | (with_reducible exact HR139.out) | (with_reducible refine yag ?_ _) | (with_reducible refine yah ?_ _) | (with_reducible refine yak ?_) | exact HR139.out)) | (with_reducible refine yag ?_ _) | (with_reducible refine yah ?_ _) | (with_reducible refine yak ?_))); (case side4 => exact HC139.out); rintro e w' ⟨rfl, ⟨nd, rfl⟩⟩; (try first | exact ⟨rfl, _, World.drewN_drewN _ _ _⟩ | exact ⟨rfl, _, Eq.trans (World.drewN_drewN _ _ _) (congrArg (World.drewN _) (Nat.add_assoc _ _ _))⟩); have p141 : 0 ≤ (0 : Int) := (by omega); have q141 : 0 < (b0.length : Int) := of_decide_eq_true (by assumption); obtain ⟨ad141, n5, d0⟩ := Kd.at_int (yab a5.out).2.2 0 p141 q141; cases n5; have qi141 : (0 < b0.length) = True := eq_true (by omega); (try rw [show ((0 : Int)).toNat = 0 from rfl] at d0); (try rw [Addr.add_zero'] at d0); replace p141 := eq_true p141; replace q141 := eq_true q141; have p142 : 0 ≤ (0 : Int) := (by omega); have q142 : 0 < (b2.length : Int) := of_decide_eq_true (by assumption); obtain ⟨ad142, n6, d1⟩ := Kd.at_int (yab c9.out).2.2 0 p142 q142; cases n6; have qi142 : (0 < b2.length) = True := eq_true (by omega); (try rw [show ((0 : Int)).toNat = 0 from rfl] at d1); (try rw [Addr.add_zero'] at d1); replace p142 := eq_true p142; replace q142 := eq_true q142)); try go_wp2_with (first | (go_at_call 4; (with_reducible refine (spec_DrawFormWrite.calls k _ _ l0 e3 b3 a7 a9 a8 _ ?side1 ?side2 A3.out).mono ?_); (case side1 => repeat (first | exact HR0.out | (with_reducible refine yag ?_ _) | (with_reducible refine yah ?_ _) | (with_reducible refine yak ?_))); (case side2 => exact HC0.out); rintro e w50 ⟨e4, e5, rfl, ho0, ho1, hb⟩; have a2 := yaa (yaw ho0 (yap (upH HB.out))); have a3 := yaa (Kd.Q_lower ho1 (yap (upH HB.out))); replace HB := yaa (yan (upH HB.out) hb); (try clear hb ho0 ho1)) | ((with_reducible refine gd_ 5 rfl ?_); (try (refine gate_guard (by rfl) ?_; dsimp only)); refine bx_ 5 rfl #[.int .i64 0, .int .i64 0, .slice none 0 0] 25 ?_; intro a4 hg w51 hbox hb; replace a2 := yaa (yaj (upR a2.out) hb); replace a3 := yaa (yaq (upQ a3.out) hb); have a1 := yaa (hbox); have b4 := yaa ((by rw [hg]; exact (yap (upH HB.out)) : w.heap.size ≤ a4)); replace HB := yaa (yan (upH HB.out) hb); have e0 := b4; clear hb hbox hg; obtain ⟨i7, i8, i9⟩ := cc3_ a1.out; obtain ⟨j0, j1, j2⟩ := cf3_ a1.out; obtain ⟨c6, b6, m3, _⟩ := Kd.Q_slice a3.out; subst m3; obtain ⟨m4, e9, m5⟩ := yax a2.out; subst m5) | (go_at_call 5; (with_reducible refine (impl_FormWrite.calls k 85 _ _ b3 a7 a9 _ _ a8 b0 _ ?side1 ?side2 ?side3 ?side4 A4.out).mono ?_); (case side1 => refine (yab (e := 5) (base := w.heap.size) (ok := fun k_ => True) (n := b3.length) (c := e9) ?_).2.2; exact (by (with_reducible repeat (first | apply yba | apply ybb | apply ybd)); exact (ybe (yam (p := ⟨a4, 2, none⟩) (yam (p := ⟨a4, 1, none⟩) (yam (p := ⟨a4, 0, none⟩) (ybc a2.out a1.out (by decide)) (fun _ hk => hk.2) (.int .i64 a7)) (fun _ hk => hk.2) (.int .i64 a9)) (fun _ hk => hk.2) (.slice c6 a8.length b6)) (fun _ h_ => h_.1)))); (case side2 => exact (yab a2.out).2.1); (case side3 => refine (yao (e := 53) (base := w.heap.size) (ok := fun k_ => True) (n := a8.length) (c := b6) ?_).2.2; exact (by (with_reducible repeat (first | apply ybf | apply ybg | apply ybi)); exact (ybj (yas (p := ⟨a4, 2, none⟩) (yas (p := ⟨a4, 1, none⟩) (yas (p := ⟨a4, 0, none⟩) (yat a3.out a1.out (by decide)) (fun _ hk => hk.2) (.int .i64 a7)) (fun _ hk => hk.2) (.int .i64 a9)) (fun _ hk => hk.2) (.slice c6 a8.length b6)) (fun _ h_ => h_.1)))); (case side4 => exact (yao a3.out).2.1); rintro e w55 ⟨e7, rfl, ho0, hb⟩; replace a3 := yaa (yaq (by (with_reducible repeat (first | apply ybf | apply ybg | apply ybi)); exact (ybj (yas (p := ⟨a4, 2, none⟩) (yas (p := ⟨a4, 1, none⟩) (yas (p := ⟨a4, 0, none⟩) (yat a3.out a1.out (by decide)) (fun _ hk => hk.2) (.int .i64 a7)) (fun _ hk => hk.2) (.int .i64 a9)) (fun _ hk => hk.2) (.slice c6 a8.length b6)) (fun _ h_ => h_.1))) hb); have a5 := yaa (yaw (yay ho0 (yaz (by (with_reducible repeat (first | apply yba | apply ybb | apply ybd)); exact (ybe (yam (p := ⟨a4, 2, none⟩) (yam (p := ⟨a4, 1, none⟩) (yam (p := ⟨a4, 0, none⟩) (ybc a2.out a1.out (by decide)) (fun _ hk => hk.2) (.int .i64 a7)) (fun _ hk => hk.2) (.int .i64 a9)) (fun _ hk => hk.2) (.slice c6 a8.length b6)) (fun _ h_ => h_.1))))) (yap (by repeat (with_reducible first | exact HB.out | apply yae | apply yac | apply yaf | refine yal ?_ (Aside0.out ‹_›))))); replace a2 := yaa (yar (by (with_reducible repeat (first | apply yba | apply ybb | apply ybd)); exact (ybe (yam (p := ⟨a4, 2, none⟩) (yam (p := ⟨a4, 1, none⟩) (yam (p := ⟨a4, 0, none⟩) (ybc a2.out a1.out (by decide)) (fun _ hk => hk.2) (.int .i64 a7)) (fun _ hk => hk.2) (.int .i64 a9)) (fun _ hk => hk.2) (.slice c6 a8.length b6)) (fun _ h_ => h_.1))) (yau ho0) hb); replace a1 := yaa (yav (g := a4) (o := .cells #[.int .i64 a7, .int .i64 a9, .slice c6 a8.length b6] 25 (0, 0)) (by (repeat refine oneB ?_); refine ybk (cs := #[.int .i64 a7, .int .i64 a9, .slice none 0 0]) ?_ 2 _ rfl; refine ybk (cs := #[.int .i64 a7, .int .i64 0, .slice none 0 0]) ?_ 1 _ rfl; refine ybk (cs := #[.int .i64 0, .int .i64 0, .slice none 0 0]) ?_ 0 _ rfl; exact upB a1.out) hb); replace HB := yaa (yan (by repeat (with_reducible first | exact HB.out | apply yae | apply yac | apply yaf | refine yal ?_ (Aside0.out ‹_›))) hb); (try clear hb ho0); obtain ⟨j3, j4, j5⟩ := cc3_ a1.out; obtain ⟨j6, j7⟩ := cf2_ a1.out; have j8 := ybh a1.out 2) | (go_at_call 7; (with_reducible refine (spec_FormWrite.calls k 85 _ _ b3 a7 a9 _ _ a8 b9 _ ?side1 ?side2 ?side3 ?side4 A5.out).mono ?_); (case side1 => repeat (first | exact (yab a2.out).2.2 | (with_reducible refine yag ?_ _) | (with_reducible refine yah ?_ _) | (with_reducible refine yak ?_))); (case side2 => exact (yab a2.out).2.1); (case side3 => repeat (first | exact (yao a3.out).2.2 | (with_reducible refine yag ?_ _) | (with_reducible refine yah ?_ _) | (with_reducible refine yak ?_))); (case side4 => exact (yao a3.out).2.1); rintro e w57 ⟨e8, rfl, ho0, hb⟩; replace a3 := yaa (yaq (upQ a3.out) hb); have a6 := yaa (yaw (yay (yay ho0 (yaz (upR a2.out))) (yaz (upR a5.out))) (yap (by repeat (with_reducible first | exact HB.out | apply yae | apply yac | apply yaf | refine yal ?_ (Aside0.out ‹_›))))); replace a2 := yaa (yar (upR a2.out) (yau ho0) hb); replace a5 := yaa (yar (upR a5.out) (yau ho0) hb); replace a1 := yaa (yav (upB a1.out) hb); replace HB := yaa (yan (by repeat (with_reducible first | exact HB.out | apply yae | apply yac | apply yaf | refine yal ?_ (Aside0.out ‹_›))) hb); (try clear hb ho0); obtain ⟨d6, d4, m6⟩ := yax a5.out; subst m6; obtain ⟨m7, m8, m9⟩ := yax a6.out; subst m9) | (go_at_call 6; (with_reducible refine (laws_eaBytes.calls _ _ b0 _ _ b9 true _ ?side1 ?side2 ?side3 ?side4 A6.out).mono ?_); (case side1 => repeat (first | exact (yab a5.out).2.2 | (with_reducible refine yag ?_ _) | (with_reducible refine yah ?_ _) | (with_reducible refine yak ?_))); (case side2 => exact (yab a5.out).2.1); (case side3 => repeat (first | exact (yab a6.out).2.2 | (with_reducible refine yag ?_ _) | (with_reducible refine yah ?_ _) | (with_reducible refine yak ?_))); (case side4 => exact (yab a6.out).2.1); rintro e w' ⟨rfl, ⟨nd, rfl⟩⟩; (try first | exact ⟨rfl, _, World.drewN_drewN _ _ _⟩ | exact ⟨rfl, _, Eq.trans (World.drewN_drewN _ _ _) (congrArg (World.drewN _) (Nat.add_assoc _ _ _))⟩); obtain ⟨j9, k0, k1⟩ := cc3_ a1.out; obtain ⟨k2, k3⟩ := cf2_ a1.out; have k4 := ybh a1.out 2) | ((with_reducible refine gd_ 43 rfl ?_); (try (refine gate_guard (by rfl) ?_; dsimp only)); refine Kd.R_lit k34 _ 34 ?hg (N := 43) ?hd (xs := ([(⟨3, 0, 0, 0, 0⟩ : S34)] : List (S34))) (inner := [.int .i64 3, .int .i64 0, .int .i64 0, .int .i64 0, .int .i64 0]) (ok := fun _ => True) (okp := fun _ => True) ?hr ?hp (fun _ hk => hk) trivial (Below.refl _ _) (Nat.le_refl _) (by simp) ?_; (case hd => rfl); (case hg => rfl); (case hr => first | (go_simp; done) | (go_simp; rfl)); (case hp => exact (Reps.c5 (show Kd.M k34 _ _ _ (⟨3, 0, 0, 0, 0⟩ : S34) [.int .i64 3, .int .i64 0, .int .i64 0, .int .i64 0, .int .i64 0] from (k34_mkM _ _ _ (⟨3, 0, 0, 0, 0⟩ : S34) )) (Reps.none _ _))); intro p6 w61 d7 hb hg_ hnew_; clear hg_ hnew_; (first | rw [← Ny121.out] at d7 | (simp only [Int.reduceToNat] at d7; rw [← Ny121.out] at d7)); replace a2 := yaa (yaj (upR a2.out) hb); replace a3 := yaa (yaq (upQ a3.out) hb); replace a5 := yaa (yaj (upR a5.out) hb); replace a6 := yaa (yaj (upR a6.out) hb); have b1 := yaa (yaw d7 (yap (by repeat (with_reducible first | exact HB.out | apply yae | apply yac | apply yaf | refine yal ?_ (Aside0.out ‹_›))))); replace a1 := yaa (yav (upB a1.out) hb); replace HB := yaa (yan (by repeat (with_reducible first | exact HB.out | apply yae | apply yac | apply yaf | refine yal ?_ (Aside0.out ‹_›))) hb); clear hb d7; obtain ⟨n0, n1, n2⟩ := yax b1.out; subst n2) | (go_at_call 10; (with_reducible refine (laws_eaDo.calls k a7 a9 (fun k_ => some k_ = (.slice c6 a8.length b6 : Value).ownBlock) _ _ a8 _ _ y121 k5 k6 k7 _ ?side1 ?side2 ?side3 A40.out).mono ?_); (case side1 => exact Kd.Q_V (Kd.Q_tight rfl (yat (yad (yad (yad (yad (a3.out) (yai a2.out) (by decide)) (yai a5.out) (by decide)) (yai a6.out) (by decide)) (yai b1.out) (by decide)) a1.out (by decide)))); (case side2 => repeat (first | exact (yab b1.out).2.2 | (with_reducible refine yag ?_ _) | (with_reducible refine yah ?_ _) | (with_reducible refine yak ?_))); (case side3 => exact (yab b1.out).2.1); rintro e w64 ⟨p7, rfl, ho0, hb⟩; have b7 := yaa (Kd.V_lower (Kd.V_mono (ok' := fun k_ => some k_ ≠ (.slice m4 b3.length e9 : Value).ownBlock ∧ some k_ ≠ (.slice d6 b0.length d4 : Value).ownBlock ∧ some k_ ≠ (.slice m7 b9.length m8 : Value).ownBlock ∧ some k_ ≠ (.slice n0 y121.length n1 : Value).ownBlock ∧ k_ ≠ a4) ho0 (fun k_ hk_ => ⟨Or.elim hk_ (fun hs_ => ((yat (yad (yad (yad (yad (a3.out) (yai a2.out) (by decide)) (yai a5.out) (by decide)) (yai a6.out) (by decide)) (yai b1.out) (by decide)) a1.out (by decide)).1 k_ hs_.symm).1.1.1.1.2) (fun hn_ => (Kd.fresh' (yaz (upR a2.out)) k_ hn_)), Or.elim hk_ (fun hs_ => ((yat (yad (yad (yad (yad (a3.out) (yai a2.out) (by decide)) (yai a5.out) (by decide)) (yai a6.out) (by decide)) (yai b1.out) (by decide)) a1.out (by decide)).1 k_ hs_.symm).1.1.1.2) (fun hn_ => (Kd.fresh' (yaz (upR a5.out)) k_ hn_)), Or.elim hk_ (fun hs_ => ((yat (yad (yad (yad (yad (a3.out) (yai a2.out) (by decide)) (yai a5.out) (by decide)) (yai a6.out) (by decide)) (yai b1.out) (by decide)) a1.out (by decide)).1 k_ hs_.symm).1.1.2) (fun hn_ => (Kd.fresh' (yaz (upR a6.out)) k_ hn_)), Or.elim hk_ (fun hs_ => ((yat (yad (yad (yad (yad (a3.out) (yai a2.out) (by decide)) (yai a5.out) (by decide)) (yai a6.out) (by decide)) (yai b1.out) (by decide)) a1.out (by decide)).1 k_ hs_.symm).1.2) (fun hn_ => (Kd.fresh' (yaz (upR b1.out)) k_ hn_)), Or.elim hk_ (fun hs_ => ((yat (yad (yad (yad (yad (a3.out) (yai a2.out) (by decide)) (yai a5.out) (by decide)) (yai a6.out) (by decide)) (yai b1.out) (by decide)) a1.out (by decide)).1 k_ hs_.symm).2) (fun hn_ => (Kd.freshB (upB a1.out) k_ hn_))⟩)) (yap (by repeat (with_reducible first | exact HB.out | apply yae | apply yac | apply yaf | refine yal ?_ (Aside0.out ‹_›))))); replace a2 := yaa (yaj (upR a2.out) hb); replace a3 := yaa (yaq (upQ a3.out) hb); replace a5 := yaa (yaj (upR a5.out) hb); replace a6 := yaa (yaj (upR a6.out) hb); replace b1 := yaa (yaj (upR b1.out) hb); replace a1 := yaa (yav (upB a1.out) hb); replace HB := yaa (yan (by repeat (with_reducible first | exact HB.out | apply yae | apply yac | apply yaf | refine yal ?_ (Aside0.out ‹_›))) hb); (try clear hb ho0); obtain ⟨p8, p9, n3⟩ := Kd.V_slice b7.out; subst n3) | (go_at_call 5; (with_reducible refine (impl_FormWrite.calls k 68 _ _ b3 k5 k6 _ _ k7 b2 _ ?side1 ?side2 ?side3 ?side4 A41.out).mono ?_); (case side1 => repeat (first | exact (yab a2.out).2.2 | (with_reducible refine yag ?_ _) | (with_reducible refine yah ?_ _) | (with_reducible refine yak ?_))); (case side2 => exact (yab a2.out).2.1); (case side3 => repeat (first | exact (Kd.V_reads' b7.out).2.2 | (with_reducible refine yag ?_ _) | (with_reducible refine yah ?_ _) | (with_reducible refine yak ?_))); (case side4 => exact (Kd.V_reads' b7.out).2.1); rintro e w66 ⟨q0, rfl, ho0, hb⟩; replace a3 := yaa (yaq (upQ a3.out) hb); replace b1 := yaa (yaj (upR b1.out) hb); replace b7 := yaa (Kd.V_elder' (upV b7.out) (yau ho0) hb); have c9 := yaa (yaw (yay (yay (yay ho0 (yaz (upR a2.out))) (yaz (upR a5.out))) (yaz (upR a6.out))) (yap (by repeat (with_reducible first | exact HB.out | apply yae | apply yac | apply yaf | refine yal ?_ (Aside0.out ‹_›))))); replace a2 := yaa (yar (upR a2.out) (yau ho0) hb); replace a5 := yaa (yar (upR a5.out) (yau ho0) hb); replace a6 := yaa (yar (upR a6.out) (yau ho0) hb); replace a1 := yaa (yav (upB a1.out) hb); replace HB := yaa (yan (by repeat (with_reducible first | exact HB.out | apply yae | apply yac | apply yaf | refine yal ?_ (Aside0.out ‹_›))) hb); (try clear hb ho0); obtain ⟨d9, d8, n4⟩ := yax c9.out; subst n4; have q68 : (1 : Int) ≤ ((b0.length : Int) : Int) := of_decide_eq_true (by assumption); obtain ⟨i068, hi068, _, e1, _⟩ := info_parts info5; have hroom68 : b0.length ≤ d4 := (yab a5.out).2.1; have hC68 : Kd.C (Kd.int .u8) _ d6 b0.length b0 := (yab a5.out).2.2; have hcut68 := cut_from (P := Try.prog) 22 5 .i64 Try.underlying22 hi068 1 e1 d6 b0.length d4 1 (by omega) q68; have hr68 := Kd.C_drop (m := (1 : Int).toNat) (c := d4) hC68 (by omega) hroom68; obtain ⟨A68, hA68⟩ : ∃ A1, A1 = (if d4 = (1 : Int).toNat then d6 else (d6 : Option Addr).map (·.add ((1 : Int).toNat * 1))) := ⟨_, rfl⟩; obtain ⟨c68, hc68⟩ : ∃ c1, c1 = d4 - (1 : Int).toNat := ⟨_, rfl⟩; have hy68 : y132.length = b0.length - (1 : Int).toNat := (by rw [Ny132.out, List.length_drop] <;> omega); rw [show (b0).drop (1 : Int).toNat = y132 from Ny132.out.symm] at hr68; replace hr68 : Kd.C (Kd.int .u8) _ A68 y132.length y132 := (by rw [hA68]; exact hr68); rw [← hy68, ← hA68, ← hc68] at hcut68; have HR135 := yaa hr68; have HC135 := yaa (show y132.length ≤ c68 from by rw [hy68, hc68]; exact Nat.sub_le_sub_right hroom68 _); clear hr68 hC68 hroom68 hi068 e1 hc68; have KY68 := yaa hy68; have KA68 := yaa hA68; clear hy68 hA68; have KL68 := yaa (show 1 ≤ b0.length from by omega); replace q68 := eq_true q68; have q69 : (1 : Int) ≤ ((b2.length : Int) : Int) := of_decide_eq_true (by assumption); obtain ⟨i069, hi069, _, e2, _⟩ := info_parts info5; have hroom69 : b2.length ≤ d8 := (yab c9.out).2.1; have hC69 : Kd.C (Kd.int .u8) _ d9 b2.length b2 := (yab c9.out).2.2; have hcut69 := cut_from (P := Try.prog) 22 5 .i64 Try.underlying22 hi069 1 e2 d9 b2.length d8 1 (by omega) q69; have hr69 := Kd.C_drop (m := (1 : Int).toNat) (c := d8) hC69 (by omega) hroom69; obtain ⟨A69, hA69⟩ : ∃ A1, A1 = (if d8 = (1 : Int).toNat then d9 else (d9 : Option Addr).map (·.add ((1 : Int).toNat * 1))) := ⟨_, rfl⟩; obtain ⟨c69, hc69⟩ : ∃ c1, c1 = d8 - (1 : Int).toNat := ⟨_, rfl⟩; have hy69 : y136.length = b2.length - (1 : Int).toNat := (by rw [Ny136.out, List.length_drop] <;> omega); rw [show (b2).drop (1 : Int).toNat = y136 from Ny136.out.symm] at hr69; replace hr69 : Kd.C (Kd.int .u8) _ A69 y136.length y136 := (by rw [hA69]; exact hr69); rw [← hy69, ← hA69, ← hc69] at hcut69; have HR139 := yaa hr69; have HC139 := yaa (show y136.length ≤ c69 from by rw [hy69, hc69]; exact Nat.sub_le_sub_right hroom69 _); clear hr69 hC69 hroom69 hi069 e2 hc69; have KY69 := yaa hy69; have KA69 := yaa hA69; clear hy69 hA69; have KL69 := yaa (show 1 ≤ b2.length from by omega); replace q69 := eq_true q69) | (go_at_call 6; (with_reducible refine (laws_eaBytes.calls _ _ y132 _ _ y136 true _ ?side1 ?side2 ?side3 ?side4 A45.out).mono ?_); (case side1 => repeat (first | exact (by repeat (first | (with_reducible exact HR135.out) | (with_reducible refine yag ?_ _) | (with_reducible refine yah ?_ _) | (with_reducible refine yak ?_) | exact HR135.out)) | (with_reducible refine yag ?_ _) | (with_reducible refine yah ?_ _) | (with_reducible refine yak ?_))); (case side2 => exact HC135.out); (case side3 => repeat (first | exact (by repeat (first | (with_reducible exact HR139.out) | (with_reducible refine yag ?_ _) | (with_reducible refine yah ?_ _) | (with_reducible refine yak ?_) | exact HR139.out)) | (with_reducible refine yag ?_ _) | (with_reducible refine yah ?_ _) | (with_reducible refine yak ?_))); (case side4 => exact HC139.out); rintro e w' ⟨rfl, ⟨nd, rfl⟩⟩; (try first | exact ⟨rfl, _, World.drewN_drewN _ _ _⟩ | exact ⟨rfl, _, Eq.trans (World.drewN_drewN _ _ _) (congrArg (World.drewN _) (Nat.add_assoc _ _ _))⟩); have p141 : 0 ≤ (0 : Int) := (by omega); have q141 : 0 < (b0.length : Int) := of_decide_eq_true (by assumption); obtain ⟨ad141, n5, d0⟩ := Kd.at_int (yab a5.out).2.2 0 p141 q141; cases n5; have qi141 : (0 < b0.length) = True := eq_true (by omega); (try rw [show ((0 : Int)).toNat = 0 from rfl] at d0); (try rw [Addr.add_zero'] at d0); replace p141 := eq_true p141; replace q141 := eq_true q141; have p142 : 0 ≤ (0 : Int) := (by omega); have q142 : 0 < (b2.length : Int) := of_decide_eq_true (by assumption); obtain ⟨ad142, n6, d1⟩ := Kd.at_int (yab c9.out).2.2 0 p142 q142; cases n6; have qi142 : (0 < b2.length) = True := eq_true (by omega); (try rw [show ((0 : Int)).toNat = 0 from rfl] at d1); (try rw [Addr.add_zero'] at d1); replace p142 := eq_true p142; replace q142 := eq_true q142)))
           go_ret
           exact ⟨by first | rfl | (simp [*, errW_none, errW_some] <;> rfl), by repeat (with_reducible first | exact HB.out | apply yae | apply yac | apply yaf | refine yal ?_ (Aside0.out ‹_›))⟩
          ·
           rw [if_neg c49] at H
           exact absurd H (by simp)
         ·
          rw [if_neg c48] at H
          have p4 := beq_eq_false_iff_ne.mpr c48; have p5 := bne_iff_ne.mpr c48
          rw [hrt] at H
          exact absurd H (by simp)
        ·
         rw [if_neg c47] at H
         exact absurd H (by simp)
       ·
        replace c46 := Bool.eq_false_iff.mpr c46
        subst c46
        rw [if_neg (show ¬ (false = true) by decide)] at H
        rw [hrt] at H
        exact absurd H (by simp)
      ·
       rw [if_neg c44] at H
       exact absurd H (by simp)
     ·
      rw [if_neg c43] at H
      exact absurd H (by simp)
    ·
     rw [if_neg c42] at H
     have p1 := beq_eq_false_iff_ne.mpr c42; have p2 := bne_iff_ne.mpr c42
     have p3 : (b0.length == b2.length) = false := by first | simpa using c42 | (simp at c42 ⊢; omega)
     rw [hrt] at H
     exact absurd H (by simp)
  ·
   replace c7 := Bool.eq_false_iff.mpr c7
   subst c7
   rw [if_neg (show ¬ (false = true) by decide)] at H
   rw [hrt] at H
   exact absurd H (by simp)

/-- THE ONE PURE STATEMENT of laws_FnFormUp: yours. -/
def laws_FnFormUp.Pure : Prop := ∀ (l0 : List Int), l0.length ≤ maxLen → l0.length * 1 ≤ 140737488351232 → (∀ x ∈ l0, (Lit.int .u8 x).wf = true) → ∃ k, laws_FnFormUp.f k l0 = some true
theorem laws_FnFormUp.walk (P : laws_FnFormUp.Pure) (a0 : Option Addr) (len0 cap0 : Nat) (z0 : List Int) (w : World) (w0 : (a0 = none ∧ len0 = 0 ∧ cap0 = 0 ∧ z0 = []) ∨ ∃ x, a0 = some x ∧ len0 ≤ cap0 ∧ cap0 ≤ maxLen ∧ z0.length = cap0 ∧ (∀ i, i < z0.length → w.cell? (x.add i) = some (.int .u8 (z0.getD i 0))) ∧ ∀ n ∈ z0, (Lit.int .u8 n).wf = true) (y0 : len0 * 1 ≤ 140737488351232) :
  Calls Try.prog 3 #[.slice a0 len0 cap0] w fun e w' => e = .returned (.bool true) ∧ Below w.heap.size w w' := by
 obtain ⟨l0, rfl, hr0, hm0, hw0, hc0⟩ := ReadsInt.ofRowC w0; obtain ⟨k, h⟩ := P l0 hm0 y0 hw0
 refine (laws_FnFormUp.calls k _ _ l0 true w (Kd.C_of_reads (d := (0 : Int)) (h1 := fun _ => rfl) hr0) hc0 h rfl).mono ?_
 rintro e w' ⟨rfl, hd⟩
 exact ⟨rfl, hd⟩
end
end Go.Proofs.Ytljobjpldbdhoaa.X
namespace Go.Proofs.Ytljobjpldbdhoaa.X
open Go.RowKit Go.Proofs.YtljobjpldbdhoaaW.PrintWords Go.Proofs.Ytljobjpldbdhoaa.Pl
set_option linter.unusedSimpArgs false

theorem bits_xor_nonneg (a b : Int) (ha : 0 ≤ a) (ha' : a < 4611686018427387904) (hb : 0 ≤ b) (hb' : b < 4611686018427387904) : 0 ≤ Go.bits .xor .i64 a b ∧ Go.bits .xor .i64 a b < 4611686018427387904 := by
  obtain ⟨m, rfl⟩ := Int.eq_ofNat_of_zero_le ha
  obtain ⟨n, rfl⟩ := Int.eq_ofNat_of_zero_le hb
  have h1 : m < 2 ^ 62 := by omega
  have h2 : n < 2 ^ 62 := by omega
  have hx : m ^^^ n < 2 ^ 62 := Nat.xor_lt_two_pow h1 h2
  have hm : m % 2 ^ 64 = m := Nat.mod_eq_of_lt (by omega)
  have hn : n % 2 ^ 64 = n := Nat.mod_eq_of_lt (by omega)
  have e : Go.bits .xor .i64 (m : Int) (n : Int) = ((m ^^^ n : Nat) : Int) := by
    have hb : (BitVec.ofNat 64 m ^^^ BitVec.ofNat 64 n).toNat = m ^^^ n := by rw [BitVec.toNat_xor, BitVec.toNat_ofNat, BitVec.toNat_ofNat, hm, hn]
    simp only [Go.bits, IntKind.bits, BitVec.ofInt_natCast]
    rw [IntKind.wrap_i64]
    change (((BitVec.ofNat 64 m ^^^ BitVec.ofNat 64 n).toNat : Int) + 9223372036854775808) % 18446744073709551616 - 9223372036854775808 = _
    rw [hb]
    omega
  rw [e]
  omega

/-- The bytes of a code. -/
def Bytes (l : List Int) : Prop := l.length ≤ 2000 ∧ ∀ y ∈ l, 0 ≤ y ∧ y ≤ 255
theorem bytes_rd {l : List Int} (h : Bytes l) (i : Int) : 0 ≤ rd l i ∧ rd l i ≤ 255 := by
  unfold rd
  by_cases hi : i.toNat < l.length
  · exact h.2 _ (getD_mem l 0 i.toNat hi)
  · rw [List.getD_eq_getElem?_getD, List.getElem?_eq_none (by omega)]
    simp

theorem tmod_bd (a n : Int) (ha : 0 ≤ a) (hn : 0 < n) : 0 ≤ Int.tmod a n ∧ Int.tmod a n < n := by
  rw [Int.tmod_eq_emod_of_nonneg ha]
  exact ⟨Int.emod_nonneg _ (by omega), Int.emod_lt_of_pos _ hn⟩

theorem pick_ev (l : List Int) (hl : Bytes l) (p n : Int) (h0 : 0 ≤ p) (h1 : p ≤ 1000000000000) :
    ∃ r, Ev (fun k => spec_l20Rd_pick.f k l p n) (r, p + 1) ∧ 0 ≤ r ∧ (1 ≤ n → r < n) ∧ (n < 1 → r = 0) := by
  have w1 : wrap64 (p + 1) = p + 1 := wrap_id (by omega) (by omega)
  have w2 : wrap64 (p + 1 - 1) = p := by rw [show p + 1 - 1 = p by omega]; exact wrap_id (by omega) (by omega)
  by_cases hn : n < 1
  · refine ⟨0, ev_succ ⟨0, fun k _ => ?_⟩, by omega, fun h => absurd h (by omega), fun _ => rfl⟩
    simp [spec_l20Rd_pick.f, hn, spec_l20Rd_pick.j0, w1]
  have hne : ¬ (n = 0) := by omega
  by_cases hz : l.length = 0
  · refine ⟨0, ev_succ ⟨0, fun k _ => ?_⟩, by omega, fun h => by omega, fun h => absurd h hn⟩
    simp [spec_l20Rd_pick.f, hn, hz, spec_l20Rd_pick.j0, w1]
  have hz' : ¬ ((l.length : Int) = 0) := by omega
  have hzb : ((l.length : Int) == 0) = false := by simpa using hz
  by_cases hlt : p < (l.length : Int)
  · have hb := bytes_rd hl p
    have w3 : wrap64 (rd l p) = rd l p := wrap_id (by omega) (by omega)
    have ht := tmod_bd (rd l p) n hb.1 (by omega)
    refine ⟨Int.tmod (rd l p) n, ev_succ ⟨0, fun k _ => ?_⟩, ht.1, fun _ => ht.2, fun h => absurd h hn⟩
    simp only [spec_l20Rd_pick.f]
    rw [if_neg hn, hzb, w1]
    simp only [spec_l20Rd_pick.j0]
    rw [if_neg (by decide), w2, if_pos hlt, if_pos h0, if_neg hne, w3]
  · have L0 : (0 : Int) < (l.length : Int) := by omega
    have m1 := tmod_bd p (l.length : Int) h0 L0
    have w4 : wrap64 (p * 7) = p * 7 := wrap_id (by omega) (by omega)
    have w5 : wrap64 (p * 7 + 3) = p * 7 + 3 := wrap_id (by omega) (by omega)
    have m2 := tmod_bd (p * 7 + 3) (l.length : Int) (by omega) L0
    obtain ⟨i1, hi1⟩ : ∃ i, i = Int.tmod p (l.length : Int) := ⟨_, rfl⟩
    obtain ⟨i2, hi2⟩ : ∃ i, i = Int.tmod (p * 7 + 3) (l.length : Int) := ⟨_, rfl⟩
    have b1 := bytes_rd hl i1
    have b2 := bytes_rd hl i2
    obtain ⟨v1, hv1⟩ : ∃ v, v = rd l i1 := ⟨_, rfl⟩
    obtain ⟨v2, hv2⟩ : ∃ v, v = rd l i2 := ⟨_, rfl⟩
    have d1 : 0 ≤ Int.tdiv p (l.length : Int) ∧ Int.tdiv p (l.length : Int) ≤ p := by
      rw [Int.tdiv_eq_ediv_of_nonneg h0]
      exact ⟨Int.ediv_nonneg h0 (by omega), Int.ediv_le_self _ h0⟩
    obtain ⟨q, hq⟩ : ∃ q, q = Int.tdiv p (l.length : Int) := ⟨_, rfl⟩
    rw [← hi1] at m1
    rw [← hi2] at m2
    rw [← hv1] at b1
    rw [← hv2] at b2
    rw [← hq] at d1
    have x1 : wrap64 v1 = v1 := wrap_id (by omega) (by omega)
    have x2 : wrap64 v2 = v2 := wrap_id (by omega) (by omega)
    have x3 : wrap64 (v1 * 131) = v1 * 131 := wrap_id (by omega) (by omega)
    have x4 : wrap64 (v2 * 1117) = v2 * 1117 := wrap_id (by omega) (by omega)
    have x5 : wrap64 (v1 * 131 + v2 * 1117) = v1 * 131 + v2 * 1117 := wrap_id (by omega) (by omega)
    have x6 : wrap64 (p * 29) = p * 29 := wrap_id (by omega) (by omega)
    have x7 : wrap64 (v1 * 131 + v2 * 1117 + p * 29) = v1 * 131 + v2 * 1117 + p * 29 := wrap_id (by omega) (by omega)
    have x8 : wrap64 q = q := wrap_id (by omega) (by omega)
    have x9 : wrap64 (q * 53) = q * 53 := wrap_id (by omega) (by omega)
    have x10 : wrap64 (v1 * 131 + v2 * 1117 + p * 29 + q * 53) = v1 * 131 + v2 * 1117 + p * 29 + q * 53 := wrap_id (by omega) (by omega)
    obtain ⟨s, hs⟩ : ∃ s, s = v1 * 131 + v2 * 1117 + p * 29 + q * 53 := ⟨_, rfl⟩
    have hs0 : 0 ≤ s := by omega
    have hs1 : s ≤ 1000000000000000 := by omega
    have x11 : wrap64 (Int.tdiv s 64) = s / 64 := by
      rw [Int.tdiv_eq_ediv_of_nonneg hs0]
      exact wrap_id (by omega) (by omega)
    have hx := bits_xor_nonneg s (s / 64) hs0 (by omega) (by omega) (by omega)
    have ht := tmod_bd (Go.bits .xor .i64 s (s / 64)) n hx.1 (by omega)
    refine ⟨Int.tmod (Go.bits .xor .i64 s (s / 64)) n, ev_succ ⟨0, fun k _ => ?_⟩, ht.1, fun _ => ht.2, fun h => absurd h hn⟩
    simp only [spec_l20Rd_pick.f]
    rw [if_neg hn, hzb, w1]
    simp only [spec_l20Rd_pick.j0]
    rw [if_neg (by decide), w2, if_neg hlt, if_neg hz', w4, w5, ← hi1, ← hi2, if_pos m1.1, if_pos m1.2, if_pos m2.1, if_pos m2.2, if_neg hne, ← hv1, ← hv2, ← hq]
    simp only [x1, x2, x3, x4, x5, x6, x7, x8, x9, x10]
    rw [← hs, x11]

theorem odd_ev (l : List Int) (hl : Bytes l) (p n : Int) (h0 : 0 ≤ p) (h1 : p ≤ 1000000000000) (hn : n ≤ 1000000) :
    ∃ b q, Ev (fun k => spec_l20Rd_odd.f k l p n) (b, q) ∧ p ≤ q ∧ q ≤ p + 1 ∧ (n ≤ 0 → b = false) := by
  by_cases hn0 : n > 0
  · obtain ⟨r, ⟨K, hr⟩, _, _, _⟩ := pick_ev l hl p n h0 h1
    refine ⟨r == wrap64 (n - 1), p + 1, ⟨K, fun k hk => ?_⟩, by omega, by omega, fun h => absurd h (by omega)⟩
    have := hr k hk
    dsimp only at this
    simp [spec_l20Rd_odd.f, hn0, this]
  · refine ⟨false, p, ⟨0, fun k _ => ?_⟩, by omega, by omega, fun _ => rfl⟩
    simp [spec_l20Rd_odd.f, hn0]

theorem pick_tot {l : List Int} (hl : Bytes l) (p n : Int) (h0 : 0 ≤ p) (h1 : p ≤ 1000000000000) :
    Tot (fun k => spec_l20Rd_pick.f k l p n) (fun x => x.2 = p + 1 ∧ 0 ≤ x.1 ∧ (1 ≤ n → x.1 < n) ∧ (n < 1 → x.1 = 0)) := by
  obtain ⟨r, h, a, b, c⟩ := pick_ev l hl p n h0 h1
  exact ⟨_, h, rfl, a, b, c⟩
theorem odd_tot {l : List Int} (hl : Bytes l) (p n : Int) (h0 : 0 ≤ p) (h1 : p ≤ 1000000000000) (hn : n ≤ 1000000) :
    Tot (fun k => spec_l20Rd_odd.f k l p n) (fun x => p ≤ x.2 ∧ x.2 ≤ p + 1 ∧ (n ≤ 0 → x.1 = false)) := by
  obtain ⟨b, q, h, c⟩ := odd_ev l hl p n h0 h1 hn
  exact ⟨_, h, c⟩
theorem open_some (l : List Int) (hu : ∀ y ∈ l, 0 ≤ y ∧ y ≤ 255) : ∃ b, spec_l20Open.f l = some (b, 0) ∧ Bytes b := by
  unfold spec_l20Open.f
  by_cases h : (l.length : Int) > 2000
  · rw [if_pos h, if_pos (by omega)]
    refine ⟨l.take 2000, rfl, ?_, fun y hy => hu y (List.mem_of_mem_take hy)⟩
    rw [List.length_take]
    omega
  · rw [if_neg h]
    exact ⟨l, rfl, by omega, hu⟩
end Go.Proofs.Ytljobjpldbdhoaa.X
namespace Go.Proofs.Ytljobjpldbdhoaa.X
open Go.RowKit Go.Proofs.YtljobjpldbdhoaaW.PrintWords Go.Proofs.Ytljobjpldbdhoaa.Pl
set_option linter.unusedSimpArgs false
set_option linter.unusedVariables false
theorem l20Pix_tot {l : List Int} (hl : Bytes l) (p : Int) (h0 : 0 ≤ p) (h1 : p ≤ 900000000000) : Tot (fun k => spec_l20Pix.f k l p) (fun x => p ≤ x.2.2.2.2 ∧ x.2.2.2.2 ≤ p + 10) := by
  simp only [spec_l20Pix.f]
  refine Tot.bind (pick_tot hl p 256 h0 (by omega)) ?_
  rintro ⟨r0, p0⟩ ⟨e0, -, -, -⟩
  dsimp only at e0 ⊢
  refine Tot.some_bind ?_
  refine Tot.bind (pick_tot hl p0 3 (by omega) (by omega)) ?_
  rintro ⟨r1, p1⟩ ⟨e1, a1, b1, -⟩
  dsimp only at e1 a1 b1 ⊢
  refine Tot.pos a1 (Tot.pos (by simp only [List.length_cons, List.length_nil]; omega) ?_)
  refine Tot.bind (pick_tot hl p1 256 (by omega) (by omega)) ?_
  rintro ⟨r2, p2⟩ ⟨e2, -, -, -⟩
  dsimp only at e2 ⊢
  refine Tot.some_bind ?_
  refine Tot.bind (pick_tot hl p2 2 (by omega) (by omega)) ?_
  rintro ⟨r3, p3⟩ ⟨e3, a3, b3, -⟩
  dsimp only at e3 a3 b3 ⊢
  refine Tot.pos a3 (Tot.pos (by simp only [List.length_cons, List.length_nil]; omega) ?_)
  refine Tot.bind (pick_tot hl p3 256 (by omega) (by omega)) ?_
  rintro ⟨r4, p4⟩ ⟨e4, -, -, -⟩
  dsimp only at e4 ⊢
  refine Tot.some_bind ?_
  refine Tot.bind (pick_tot hl p4 2 (by omega) (by omega)) ?_
  rintro ⟨r5, p5⟩ ⟨e5, a5, b5, -⟩
  dsimp only at e5 a5 b5 ⊢
  refine Tot.pos a5 (Tot.pos (by simp only [List.length_cons, List.length_nil]; omega) ?_)
  refine Tot.bind (pick_tot hl p5 256 (by omega) (by omega)) ?_
  rintro ⟨r6, p6⟩ ⟨e6, -, -, -⟩
  dsimp only at e6 ⊢
  refine Tot.some_bind ?_
  refine Tot.bind (pick_tot hl p6 4 (by omega) (by omega)) ?_
  rintro ⟨r7, p7⟩ ⟨e7, a7, b7, -⟩
  dsimp only at e7 a7 b7 ⊢
  refine Tot.pos a7 (Tot.pos (by simp only [List.length_cons, List.length_nil]; omega) (Tot.ret ?_))
  dsimp only
  omega
theorem l20Ras_l0_tot {l : List Int} (hl : Bytes l) (n w h : Int) (hw : 1 ≤ w ∧ w ≤ 6) (hh : 1 ≤ h ∧ h ≤ 6) (hn : n ≤ 1000) (P : Int) (hP : P ≤ 700000000000) : ∀ s : Int × Int × List Pix × Pix, (0 ≤ s.1 ∧ s.1 ≤ w * h ∧ s.2.2.1.length = s.1.toNat ∧ 0 ≤ s.2.1 ∧ s.2.1 + 20 * (w * h - s.1) ≤ P) →
    Tot (fun k => spec_l20Ras.l0 k n s.1 l s.2.1 w h s.2.2.1 s.2.2.2.f0 s.2.2.2.f1 s.2.2.2.f2 s.2.2.2.f3) (fun x => x.2.2.1.length ≤ 100 ∧ 0 ≤ x.2.2.2 ∧ x.2.2.2 ≤ P + 20) := by
  have hm1 : w * h ≤ 36 := by
    have : w * h ≤ 6 * 6 := Int.mul_le_mul hw.2 hh.2 (by omega) (by omega)
    omega
  have hm0 : 1 ≤ w * h := by
    have : (1 : Int) * 1 ≤ w * h := Int.mul_le_mul hw.1 hh.1 (by omega) (by omega)
    omega
  have hwr : wrap64 (w * h) = w * h := wrap_id (by omega) (by omega)
  obtain ⟨m, hm⟩ : ∃ m, m = w * h := ⟨_, rfl⟩
  rw [← hm] at hm0 hm1
  refine tot_ind (fun k (s : Int × Int × List Pix × Pix) => spec_l20Ras.l0 k n s.1 l s.2.1 w h s.2.2.1 s.2.2.2.f0 s.2.2.2.f1 s.2.2.2.f2 s.2.2.2.f3) _ (fun s => (m - s.1).toNat) _ ?_
  rintro ⟨i, p, s, z⟩ ⟨i1, i2, i3, i4, i5⟩ ih
  dsimp only at i1 i2 i3 i4 i5 ⊢
  rw [← hm] at i2 i5
  refine Tot.succ ?_
  simp only [spec_l20Ras.l0, hwr]
  rw [← hm]
  refine Tot.ite ?_ ?_ <;> intro hc
  · have hw1 : wrap64 (i + 1) = i + 1 := wrap_id (by omega) (by omega)
    refine Tot.bind (pick_tot hl p 3 (by omega) (by omega)) ?_
    rintro ⟨r0, p0⟩ ⟨e0, -, -, -⟩
    dsimp only at e0 ⊢
    rw [hw1]
    refine Tot.ite ?_ ?_ <;> intro hd
    · refine Tot.bind (l20Pix_tot hl p0 (by omega) (by omega)) ?_
      rintro ⟨c0, c1, c2, c3, p1⟩ ⟨e1, e2⟩
      dsimp only at e1 e2 ⊢
      refine Tot.pos (by omega) ?_
      exact ih (i + 1, p1, s ++ [⟨c0, c1, c2, c3⟩], ⟨c0, c1, c2, c3⟩) (by dsimp only; rw [← hm, List.length_append]; simp only [List.length_cons, List.length_nil]; omega) (by dsimp only; omega)
    · refine Tot.pos (by omega) ?_
      exact ih (i + 1, p0, s ++ [⟨z.f0, z.f1, z.f2, z.f3⟩], z) (by dsimp only; rw [← hm, List.length_append]; simp only [List.length_cons, List.length_nil]; omega) (by dsimp only; omega)
  · have hi : i = m := by omega
    have hlen : (s.length : Int) = m := by omega
    refine Tot.bind (odd_tot hl p n (by omega) (by omega) (by omega)) ?_
    rintro ⟨b1, p1⟩ ⟨e1, e2, -⟩
    dsimp only at e1 e2 ⊢
    refine Tot.ite ?_ ?_ <;> intro hb
    · refine Tot.bind (pick_tot hl p1 4 (by omega) (by omega)) ?_
      rintro ⟨r2, p2⟩ ⟨e3, -, -, -⟩
      dsimp only at e3 ⊢
      refine Tot.ite ?_ ?_ <;> intro hd
      · refine Tot.some_bind ?_
        refine Tot.bind (pick_tot hl p2 4 (by omega) (by omega)) ?_
        rintro ⟨r3, p3⟩ ⟨e4, a4, b4, -⟩
        dsimp only at e4 a4 b4 ⊢
        exact Tot.pos a4 (Tot.pos (by simp only [List.length_cons, List.length_nil]; omega) (Tot.ret ⟨by dsimp only; omega, by dsimp only; omega, by dsimp only; omega⟩))
      refine Tot.ite ?_ ?_ <;> intro hd
      · refine Tot.some_bind ?_
        refine Tot.bind (pick_tot hl p2 2 (by omega) (by omega)) ?_
        rintro ⟨r3, p3⟩ ⟨e4, a4, b4, -⟩
        dsimp only at e4 a4 b4 ⊢
        exact Tot.pos a4 (Tot.pos (by simp only [List.length_cons, List.length_nil]; omega) (Tot.ret ⟨by dsimp only; omega, by dsimp only; omega, by dsimp only; omega⟩))
      refine Tot.ite ?_ ?_ <;> intro hd
      · exact Tot.pos (by omega) (Tot.ret ⟨by dsimp only; rw [List.length_drop]; omega, by dsimp only; omega, by dsimp only; omega⟩)
      · refine Tot.bind (pick_tot hl p2 (s.length : Int) (by omega) (by omega)) ?_
        rintro ⟨r3, p3⟩ ⟨e4, a4, b4, -⟩
        dsimp only at e4 a4 b4 ⊢
        refine Tot.some_bind ?_
        refine Tot.bind (pick_tot hl p3 2 (by omega) (by omega)) ?_
        rintro ⟨r4, p4⟩ ⟨e5, a5, b5, -⟩
        dsimp only at e5 a5 b5 ⊢
        exact Tot.pos a5 (Tot.pos (by simp only [List.length_cons, List.length_nil]; omega) (Tot.pos a4 (Tot.pos (by omega) (Tot.ret ⟨by dsimp only; rw [List.length_set]; omega, by dsimp only; omega, by dsimp only; omega⟩))))
    · exact Tot.ret ⟨by dsimp only; omega, by dsimp only; omega, by dsimp only; omega⟩
theorem l20Ras_tot {l : List Int} (hl : Bytes l) (p n : Int) (h0 : 0 ≤ p) (h1 : p ≤ 600000000000) (hn : n ≤ 1000) : Tot (fun k => spec_l20Ras.f k l p n) (fun x => x.2.2.1.length ≤ 100 ∧ 0 ≤ x.2.2.2 ∧ x.2.2.2 ≤ p + 1000) := by
  simp only [spec_l20Ras.f]
  refine Tot.bind (pick_tot hl p 6 h0 (by omega)) ?_
  rintro ⟨r0, p0⟩ ⟨e0, a0, b0, -⟩
  dsimp only at e0 a0 b0 ⊢
  refine Tot.bind (pick_tot hl p0 6 (by omega) (by omega)) ?_
  rintro ⟨r1, p1⟩ ⟨e1, a1, b1, -⟩
  dsimp only at e1 a1 b1 ⊢
  refine Tot.bind (l20Pix_tot hl p1 (by omega) (by omega)) ?_
  rintro ⟨c0, c1, c2, c3, p2⟩ ⟨e2, e3⟩
  dsimp only at e2 e3 ⊢
  have w0 : wrap64 (1 + r0) = 1 + r0 := wrap_id (by omega) (by omega)
  have w1 : wrap64 (1 + r1) = 1 + r1 := wrap_id (by omega) (by omega)
  have hm : (1 + r0) * (1 + r1) ≤ 6 * 6 := Int.mul_le_mul (by omega) (by omega) (by omega) (by omega)
  have hm0 : (1 : Int) * 1 ≤ (1 + r0) * (1 + r1) := Int.mul_le_mul (by omega) (by omega) (by omega) (by omega)
  rw [w0, w1]
  exact (l20Ras_l0_tot hl n (1 + r0) (1 + r1) (by omega) (by omega) hn (p2 + 720) (by omega) (0, p2, [], ⟨c0, c1, c2, c3⟩) (by dsimp only [List.length_nil]; revert hm hm0; generalize (1 + r0) * (1 + r1) = q; intro hm hm0; omega)).mono (fun x hx => ⟨hx.1, hx.2.1, by omega⟩)
end Go.Proofs.Ytljobjpldbdhoaa.X
namespace Go.Proofs.Ytljobjpldbdhoaa.X
open Go.RowKit Go.Proofs.YtljobjpldbdhoaaW.PrintWords Go.Proofs.Ytljobjpldbdhoaa.Pl
set_option linter.unusedSimpArgs false
set_option linter.unusedVariables false
/-! ### Sums -/
def sumR (l : List Int) : Nat → Nat → Int → Int → Int
  | 0, i, a, b => wrap64 ((wrap64 (b * 65536)) + a)
  | e + 1, i, a, b => sumR l e (i + 1) (Int.tmod (wrap64 (a + (wrap64 (rd l (i : Int))))) 65521) (Int.tmod (wrap64 (b + (Int.tmod (wrap64 (a + (wrap64 (rd l (i : Int))))) 65521))) 65521)
theorem implSum_tot (l : List Int) (hl : l.length ≤ 1000000) : ∀ e i a b, i + e = l.length → Tot (fun k => impl_SumOf.l0 k a b l (l.length : Int) (i : Int)) (fun r => r = sumR l e i a b)
  | 0, i, a, b, h => by
    refine Tot.succ ?_
    simp only [impl_SumOf.l0]
    exact Tot.neg (by omega) (Tot.ret rfl)
  | e + 1, i, a, b, h => by
    refine Tot.succ ?_
    simp only [impl_SumOf.l0]
    refine Tot.pos (by omega) (Tot.pos (by omega) (Tot.pos (by omega) ?_))
    rw [show wrap64 ((i : Int) + 1) = ((i + 1 : Nat) : Int) by rw [wrap_id (by omega) (by omega)]; omega]
    exact implSum_tot l hl e (i + 1) _ _ (by omega)
theorem specSum_tot (l : List Int) (hl : l.length ≤ 1000000) : ∀ e i a b, i + e = l.length → Tot (fun k => spec_SumOf.l0 k l a b (i : Int)) (fun r => r = sumR l e i a b)
  | 0, i, a, b, h => by
    refine Tot.succ ?_
    simp only [spec_SumOf.l0]
    exact Tot.neg (by omega) (Tot.ret rfl)
  | e + 1, i, a, b, h => by
    refine Tot.succ ?_
    simp only [spec_SumOf.l0]
    refine Tot.pos (by omega) (Tot.pos (by omega) ?_)
    rw [show wrap64 ((i : Int) + 1) = ((i + 1 : Nat) : Int) by rw [wrap_id (by omega) (by omega)]; omega]
    exact specSum_tot l hl e (i + 1) _ _ (by omega)
def sumF (l : List Int) : Int := sumR l l.length 0 1 0
theorem tmod_in {x : Int} (h0 : 0 ≤ x) (h1 : x ≤ 9223372036854775807) : 0 ≤ Int.tmod (wrap64 x) 65521 ∧ Int.tmod (wrap64 x) 65521 < 65521 := by
  rw [wrap_id (by omega) h1, Int.tmod_eq_emod_of_nonneg h0]
  omega
theorem sumR_in (l : List Int) (hb : ∀ y ∈ l, 0 ≤ y ∧ y ≤ 255) : ∀ e i a b, 0 ≤ a → a < 65521 → 0 ≤ b → b < 65521 → 0 ≤ sumR l e i a b ∧ sumR l e i a b < 4294967296
  | 0, i, a, b, a0, a1, b0, b1 => by
    unfold sumR
    rw [wrap_id (x := b * 65536) (by omega) (by omega), wrap_id (by omega) (by omega)]
    omega
  | e + 1, i, a, b, a0, a1, b0, b1 => by
    unfold sumR
    have hr : 0 ≤ rd l (i : Int) ∧ rd l (i : Int) ≤ 255 := by
      unfold rd
      rw [List.getD_eq_getElem?_getD]
      cases h : l[(i : Int).toNat]? with
      | none => simp
      | some y => exact hb y (List.mem_of_getElem? h)
    have hw : wrap64 (rd l (i : Int)) = rd l (i : Int) := wrap_id (by omega) (by omega)
    rw [hw]
    obtain ⟨c0, c1⟩ := tmod_in (x := a + rd l (i : Int)) (by omega) (by omega)
    obtain ⟨d0, d1⟩ := tmod_in (x := b + Int.tmod (wrap64 (a + rd l (i : Int))) 65521) (by omega) (by omega)
    exact sumR_in l hb e (i + 1) _ _ c0 c1 d0 d1
theorem sumF_in (l : List Int) (hb : ∀ y ∈ l, 0 ≤ y ∧ y ≤ 255) : 0 ≤ sumF l ∧ sumF l < 4294967296 := sumR_in l hb _ 0 1 0 (by omega) (by omega) (by omega) (by omega)
theorem specSum4 (l : List Int) (hl : l.length ≤ 1000000) (hb : ∀ y ∈ l, 0 ≤ y ∧ y ≤ 255) : Tot (fun k => spec_l5Sum.f k l) (fun r => r = sum4 (sumF l)) := by
  unfold spec_l5Sum.f spec_SumOf.f
  refine Tot.bind (specSum_tot l hl l.length 0 1 0 (by omega)) ?_
  rintro _ rfl
  refine Tot.ret ?_
  obtain ⟨s0, s1⟩ := sumF_in l hb
  show [_, _, _, _] = sum4 (sumF l)
  have e : sumR l l.length 0 1 0 = sumF l := rfl
  rw [e]
  generalize sumF l = s at s0 s1
  unfold sum4
  have q : ∀ d : Int, 0 < d → Int.tdiv s d = s / d := fun d hd => Int.tdiv_eq_ediv_of_nonneg s0
  have m : ∀ x d : Int, 0 ≤ x → Int.tmod x d = x % d := fun x d hx => Int.tmod_eq_emod_of_nonneg hx
  rw [q _ (by omega), q _ (by omega), q _ (by omega)]
  have w1 : wrap64 (s / 16777216) = s / 16777216 := wrap_id (by omega) (by omega)
  have w2 : wrap64 (s / 65536) = s / 65536 := wrap_id (by omega) (by omega)
  have w3 : wrap64 (s / 256) = s / 256 := wrap_id (by omega) (by omega)
  rw [w1, w2, w3, m _ _ (by omega), m _ _ (by omega), m _ _ s0]
  congr 1
  congr 1
  · omega
  congr 1
  · omega
  congr 1
  omega
theorem valid_len {a b : Int} {l : List Pix} (h : rasOkB a b l = true) : 1 ≤ l.length ∧ l.length ≤ 36 := by
  unfold rasOkB at h
  simp only [Bool.and_eq_true, decide_eq_true_eq] at h
  have := mul36 h.1 h.2.1
  have := h.2.2.1
  omega
/-! ### Files -/
theorem implFileE_tot (kd : Int) (note body : List Int) (h : body.length ≤ 1000) : Tot (fun k => fileE k kd note body) (fun r => r = fileL kd note body (sumF body)) := by
  unfold fileE impl_SumOf.f
  refine Tot.bind (implSum_tot body (by omega) body.length 0 1 0 (by omega)) ?_
  rintro _ rfl
  exact Tot.pos (by omega) (Tot.ret rfl)
theorem specFile_tot (kd : Int) (note body : List Int) (hn : note.length ≤ 1000) (h : body.length ≤ 1000) (hb : ∀ y ∈ body, 0 ≤ y ∧ y ≤ 255) (a b : Int) (l : List Pix) (hbody : Tot (fun k => spec_l5Body.f k kd a b l) (fun r => r = body)) :
    Tot (fun k => spec_l5File.f k kd note a b l) (fun r => r = fileL kd note body (sumF body)) := by
  unfold spec_l5File.f
  refine Tot.bind hbody ?_
  rintro _ rfl
  refine Tot.some_bind (Tot.pos (by simp only [List.length_cons, List.length_nil]; omega) (Tot.some_bind (Tot.pos (by simp only [List.length_append, List.length_cons, List.length_nil]; omega) (Tot.some_bind ?_))))
  refine Tot.bind (specSum4 _ (by omega) hb) ?_
  rintro _ rfl
  exact Tot.pos (by simp only [List.length_append, List.length_cons, List.length_nil, sum4]; omega) (Tot.ret rfl)
end Go.Proofs.Ytljobjpldbdhoaa.X
namespace Go.Proofs.Ytljobjpldbdhoaa.X
open Go.RowKit Go.Proofs.YtljobjpldbdhoaaW.PrintWords Go.Proofs.Ytljobjpldbdhoaa.Pl
set_option linter.unusedSimpArgs false
set_option linter.unusedVariables false
theorem mk_len (w h : Nat) (f : Nat → Nat → Pix) : (mk w h f).length = w * h := by simp [mk]
theorem mk_get {w h : Nat} (f : Nat → Nat → Pix) {i : Nat} (hi : i < w * h) : (mk w h f)[i]? = some (f (i % w) (i / w)) := by simp [mk, hi]
theorem flip_ok {wd hg : Nat} {l : List Pix} (h : Valid wd hg l) : Valid wd hg (flipL wd hg l) := by
  obtain ⟨⟨w0, w1⟩, ⟨h0, h1⟩, hl, hp⟩ := h
  refine ⟨⟨w0, w1⟩, ⟨h0, h1⟩, mk_len _ _ _, fun p hm => ?_⟩
  unfold flipL mk at hm
  obtain ⟨i, hi, rfl⟩ := List.mem_map.1 hm
  have hi := List.mem_range.1 hi
  have hx : i % wd < wd := Nat.mod_lt _ (by omega)
  have hy : i / wd < hg := Nat.div_lt_of_lt_mul hi
  refine hp _ ?_
  show pix l wd (i % wd) (hg - 1 - i / wd) ∈ l
  revert hx hy
  generalize i % wd = x
  generalize i / wd = y
  intro hx hy
  have hlt := place_lt (x := x) (y := hg - 1 - y) hx (by omega) hl
  unfold pix
  rw [List.getD_eq_getElem?_getD, List.getElem?_eq_getElem hlt]
  exact List.getElem_mem hlt
theorem flip_okB {a b : Int} {l : List Pix} (h : rasOkB a b l = true) : rasOkB a b (flipL a.toNat b.toNat l) = true := by
  obtain ⟨wd, hg, rfl, rfl, hv⟩ := (rasOkB_iff _ _ _).1 h
  rw [Int.toNat_natCast, Int.toNat_natCast]
  exact (rasOkB_iff _ _ _).2 ⟨wd, hg, rfl, rfl, flip_ok hv⟩
/-! ### The reference -/
theorem flip_row {wd hg : Nat} {l : List Pix} (hl : l.length = wd * hg) (j : Nat) (hj : j < hg) : (flipL wd hg l).take ((hg - (j + 1)) * wd) ++ (l.take ((j + 1) * wd)).drop (j * wd) = (flipL wd hg l).take ((hg - j) * wd) := by
  have e : (hg - j) * wd = (hg - (j + 1)) * wd + wd := by rw [show hg - j = hg - (j + 1) + 1 by omega, Nat.add_mul, Nat.one_mul]
  rw [e, List.take_add]
  congr 1
  have hjw : (j + 1) * wd ≤ hg * wd := Nat.mul_le_mul_right _ (by omega)
  have hjw2 : (j + 1) * wd = j * wd + wd := by rw [Nat.add_mul, Nat.one_mul]
  have htw : (hg - (j + 1)) * wd + wd ≤ hg * wd := by rw [← e]; exact Nat.mul_le_mul_right _ (by omega)
  have hc : hg * wd = wd * hg := Nat.mul_comm _ _
  apply List.ext_getElem?
  intro i
  rw [List.getElem?_drop, List.getElem?_take, List.getElem?_take, List.getElem?_drop]
  by_cases hi : i < wd
  · rw [if_pos (by omega), if_pos hi]
    unfold flipL
    rw [mk_get _ (by omega)]
    have hm : ((hg - (j + 1)) * wd + i) % wd = i := by rw [Nat.mul_comm, Nat.mul_add_mod, Nat.mod_eq_of_lt hi]
    have hd : ((hg - (j + 1)) * wd + i) / wd = hg - (j + 1) := by rw [Nat.mul_comm, Nat.mul_add_div (by omega), Nat.div_eq_of_lt hi, Nat.add_zero]
    rw [hm, hd]
    unfold pix
    rw [show hg - 1 - (hg - (j + 1)) = j by omega, List.getElem?_eq_getElem (show j * wd + i < l.length by omega), List.getD_eq_getElem?_getD, List.getElem?_eq_getElem (show j * wd + i < l.length by omega)]
    rfl
  · rw [if_neg (by omega), if_neg hi]
theorem specFlip_loop {wd hg : Nat} {l : List Pix} (hw1 : wd ≤ 6) (hh1 : hg ≤ 6) (hl : l.length = wd * hg) (a b : Int) : ∀ j, j ≤ hg → Tot (fun k => spec_l5Flip.l0 k ((j : Int) - 1) (wd : Int) b l a (hg : Int) ((flipL wd hg l).take ((hg - j) * wd))) (fun r => r = (a, (hg : Int), flipL wd hg l))
  | 0, h => by
    refine Tot.succ ?_
    simp only [spec_l5Flip.l0]
    refine Tot.neg (by omega) (Tot.ret ?_)
    rw [Nat.sub_zero, List.take_of_length_le (by unfold flipL; rw [mk_len, Nat.mul_comm]; exact Nat.le_refl _)]
  | j + 1, h => by
    refine Tot.succ ?_
    simp only [spec_l5Flip.l0]
    have e0 : ((j + 1 : Nat) : Int) - 1 = (j : Int) := by omega
    have e1 : wrap64 ((j : Int) + 1) = ((j + 1 : Nat) : Int) := by rw [wrap_id (by omega) (by omega)]; omega
    have e4 : wrap64 ((j : Int) - 1) = (j : Int) - 1 := wrap_id (by omega) (by omega)
    have e2 : wrap64 ((j : Int) * (wd : Int)) = ((j * wd : Nat) : Int) := mul_w (by omega) (by omega)
    have e3 : wrap64 (((j + 1 : Nat) : Int) * (wd : Int)) = (((j + 1) * wd : Nat) : Int) := mul_w (by omega) (by omega)
    have hjw : (j + 1) * wd ≤ hg * wd := Nat.mul_le_mul_right _ (by omega)
    have hjw2 : (j + 1) * wd = j * wd + wd := by rw [Nat.add_mul, Nat.one_mul]
    have hc : hg * wd = wd * hg := Nat.mul_comm _ _
    have h36 : wd * hg ≤ 6 * 6 := Nat.mul_le_mul hw1 hh1
    rw [e0, e1, e2, e3, e4]
    refine Tot.pos (by omega) (Tot.pos (by omega) (Tot.pos (by omega) (Tot.pos (by omega) (Tot.some_bind (Tot.pos ?_ ?_)))))
    · have hfl : (flipL wd hg l).length = wd * hg := mk_len _ _ _
      simp only [List.length_take, List.length_drop, hfl]
      omega
    · rw [Int.toNat_natCast, Int.toNat_natCast, flip_row hl j (by omega)]
      exact specFlip_loop hw1 hh1 hl a b j (by omega)
theorem specFlip_tot {wd hg : Nat} {l : List Pix} (hv : Valid wd hg l) : Tot (fun k => spec_l5Flip.f k (wd : Int) (hg : Int) l) (fun r => r = ((wd : Int), (hg : Int), flipL wd hg l)) := by
  obtain ⟨⟨w0, w1⟩, ⟨h0, h1⟩, hl, hp⟩ := hv
  unfold spec_l5Flip.f
  have h := specFlip_loop w1 h1 hl (wd : Int) (hg : Int) hg (Nat.le_refl _)
  rw [Nat.sub_self, Nat.zero_mul, List.take_zero] at h
  rw [wrap_id (x := (hg : Int) - 1) (by omega) (by omega)]
  exact h
theorem l3_loop (l : List Pix) (hl : l.length ≤ 100) (a b : Int) : ∀ e i, i + e = l.length → Tot (fun k => spec_l3Bytes.l0 k ([a % 256, b % 256] ++ pxs (l.take i)) (i : Int) a b l) (fun r => r = rasL a b l)
  | 0, i, h => by
    refine Tot.succ ?_
    simp only [spec_l3Bytes.l0]
    refine Tot.neg (by omega) (Tot.ret ?_)
    rw [List.take_of_length_le (by omega)]
    rfl
  | e + 1, i, h => by
    refine Tot.succ ?_
    simp only [spec_l3Bytes.l0]
    have hlen : ([a % 256, b % 256] ++ pxs (l.take i)).length ≤ 1000 := by rw [List.length_append, pxs_len, List.length_take]; simp only [List.length_cons, List.length_nil]; omega
    refine Tot.pos (by omega) (Tot.pos (by omega) (Tot.some_bind (Tot.pos (by simp only [List.length_cons, List.length_nil] at hlen ⊢; omega) ?_)))
    rw [show wrap64 ((i : Int) + 1) = ((i + 1 : Nat) : Int) by rw [wrap_id (by omega) (by omega)]; omega, List.append_assoc]
    have e2 := take_next l i (by omega)
    unfold px4 at e2
    rw [← e2]
    exact l3_loop l hl a b e (i + 1) (by omega)
theorem l3_tot (l : List Pix) (hl : l.length ≤ 100) (a b : Int) : Tot (fun k => spec_l3Bytes.f k a b l) (fun r => r = rasL a b l) := by
  have h := l3_loop l hl a b l.length 0 (by omega)
  unfold spec_l3Bytes.f
  exact h
theorem px4_byt (p : Pix) : ∀ y ∈ px4 p, 0 ≤ y ∧ y ≤ 255 := by
  intro y hy
  simp only [px4, List.mem_cons, List.not_mem_nil, or_false] at hy
  rcases hy with rfl | rfl | rfl | rfl <;> omega
theorem rasL_byt (a b : Int) (l : List Pix) : ∀ y ∈ rasL a b l, 0 ≤ y ∧ y ≤ 255 := by
  intro y hy
  unfold rasL pxs at hy
  rcases List.mem_append.1 hy with hy | hy
  · simp only [List.mem_cons, List.not_mem_nil, or_false] at hy
    rcases hy with rfl | rfl <;> omega
  · obtain ⟨p, _, hp⟩ := List.mem_flatMap.1 hy
    exact px4_byt p y hp
theorem rasL_len (a b : Int) (l : List Pix) : (rasL a b l).length = 2 + 4 * l.length := by
  unfold rasL
  rw [List.length_append, pxs_len]
  rfl
/-! ### The files -/
/-- A file of a body; nothing, of what is no picture, and behind a note that is too long. -/
def fileK (kd : Int) (note : List Int) (a b : Int) (l : List Pix) (body : List Int) : List Int := if 9 < note.length then [] else if rasOkB a b l = true then fileL kd note body (sumF body) else []
def upL (a b : Int) (l : List Pix) : List Int := rasL a b (flipL a.toNat b.toNat l)
theorem upL_len {a b : Int} {l : List Pix} (h : rasOkB a b l = true) : (upL a b l).length ≤ 1000 := by
  obtain ⟨_, h2⟩ := valid_len (flip_okB h)
  unfold upL
  rw [rasL_len]
  omega
theorem rasBytes_tot {a b : Int} {l : List Pix} (h : rasOkB a b l = true) : Tot (fun k => impl_RasBytes.f k a b l) (fun r => r = rasL a b l) := by
  unfold impl_RasBytes.f
  refine Tot.bind (Tot.of_ev (impl_RasOk_ev a b l)) ?_
  rintro _ rfl
  exact Tot.pos h (Tot.ret rfl)
theorem implUp_tot (note : List Int) (a b : Int) (l : List Pix) : Tot (fun k => impl_FormWrite.f k 85 note a b l) (fun r => r = fileK 85 note a b l (upL a b l)) := by
  unfold impl_FormWrite.f fileK
  refine Tot.pos (.inr rfl) (Tot.ite (fun h9 => Tot.ret (by rw [if_pos h9])) (fun h9 => ?_))
  rw [if_neg h9]
  refine Tot.bind (Tot.of_ev (impl_RasOk_ev a b l)) ?_
  rintro _ rfl
  by_cases h : rasOkB a b l = true
  · refine Tot.pos h ?_
    rw [if_pos h]
    refine Tot.bind (P := fun r => r = upL a b l) ?_ ?_
    · unfold bodyDU
      refine Tot.neg (by decide) ?_
      unfold impl_formUp_write.f impl_rowsBack.f
      rw [if_pos h]
      refine Tot.some_bind ?_
      refine Tot.bind (rasBytes_tot (flip_okB h)) ?_
      rintro _ rfl
      exact Tot.ret rfl
    rintro _ rfl
    exact implFileE_tot 85 note _ (upL_len h)
  · refine Tot.neg h (Tot.ret ?_)
    rw [if_neg h]
theorem implDown_tot (note : List Int) (a b : Int) (l : List Pix) : Tot (fun k => impl_FormWrite.f k 68 note a b l) (fun r => r = fileK 68 note a b l (rasL a b l)) := by
  unfold impl_FormWrite.f fileK
  refine Tot.pos (.inl rfl) (Tot.ite (fun h9 => Tot.ret (by rw [if_pos h9])) (fun h9 => ?_))
  rw [if_neg h9]
  refine Tot.bind (Tot.of_ev (impl_RasOk_ev a b l)) ?_
  rintro _ rfl
  by_cases h : rasOkB a b l = true
  · refine Tot.pos h ?_
    rw [if_pos h]
    have h2 := (valid_len h).2
    refine Tot.bind (P := fun r => r = rasL a b l) ?_ ?_
    · unfold bodyDU
      refine Tot.pos rfl ?_
      unfold impl_formDown_write.f
      refine Tot.bind (rasBytes_tot h) ?_
      rintro _ rfl
      exact Tot.ret rfl
    rintro _ rfl
    exact implFileE_tot 68 note _ (by rw [rasL_len]; omega)
  · refine Tot.neg h (Tot.ret ?_)
    rw [if_neg h]
theorem specUp_tot (note : List Int) (a b : Int) (l : List Pix) : Tot (fun k => spec_FormWrite.f k 85 note a b l) (fun r => r = fileK 85 note a b l (upL a b l)) := by
  unfold spec_FormWrite.f fileK
  have hk : spec_l5Kind.f 85 = some true := rfl
  refine Tot.bind (Tot.of_eq hk) ?_
  rintro _ rfl
  refine Tot.pos rfl (Tot.ite (fun h9 => Tot.ret (by rw [if_pos (by omega)])) (fun h9 => ?_))
  have h9' : ¬ 9 < note.length := by omega
  rw [if_neg h9']
  refine Tot.bind (Tot.of_ev (spec_RasOk_ev a b l)) ?_
  rintro _ rfl
  by_cases h : rasOkB a b l = true
  · refine Tot.pos h ?_
    rw [if_pos h]
    refine Tot.bind (specFile_tot 85 note (upL a b l) (by omega) (upL_len h) (rasL_byt _ _ _) a b l ?_) (fun r hr => Tot.ret hr)
    obtain ⟨wd, hg, rfl, rfl, hv⟩ := (rasOkB_iff _ _ _).1 h
    have h2 := (valid_len (flip_okB h)).2
    unfold spec_l5Body.f
    refine Tot.neg (by decide) (Tot.pos rfl ?_)
    refine Tot.bind (specFlip_tot hv) ?_
    rintro _ rfl
    rw [Int.toNat_natCast, Int.toNat_natCast] at h2
    refine Tot.bind (l3_tot (flipL wd hg l) (by omega) (wd : Int) (hg : Int)) ?_
    rintro _ rfl
    refine Tot.ret ?_
    unfold upL
    rw [Int.toNat_natCast, Int.toNat_natCast]
  · refine Tot.neg h (Tot.ret ?_)
    rw [if_neg h]
end Go.Proofs.Ytljobjpldbdhoaa.X
namespace Go.Proofs.Ytljobjpldbdhoaa.Pure
open Go.RowKit Go.Proofs.YtljobjpldbdhoaaW.PrintWords Go.Proofs.Ytljobjpldbdhoaa.Pl Go.Proofs.Ytljobjpldbdhoaa.X
set_option linter.unusedVariables false
set_option linter.unusedSimpArgs false
theorem ByteOk {n : Int} (h : (Lit.int .u8 n).wf = true) : 0 ≤ n ∧ n ≤ 255 := by
  simp [Lit.wf, IntKind.min, IntKind.max, IntKind.signed, IntKind.bits] at h; omega
theorem l20Bytes_loop {l : List Int} (hl : Bytes l) : ∀ n : Nat, ∀ (acc : List Int) (p : Int), n ≤ 1000 → acc.length + n ≤ 100000 → 0 ≤ p → p + 3 * n ≤ 900000000000 → Tot (fun k => spec_l20Bytes.l0 k acc (n : Int) l p) (fun x => x.1.length = acc.length + n ∧ p ≤ x.2 ∧ x.2 ≤ p + 3 * n)
  | 0, acc, p, h, ha, h0, h1 => by
    refine Tot.succ ?_
    simp only [spec_l20Bytes.l0]
    exact Tot.neg (by omega) (Tot.ret ⟨by simp, by simp, by simp⟩)
  | n + 1, acc, p, h, ha, h0, h1 => by
    refine Tot.succ ?_
    simp only [spec_l20Bytes.l0]
    refine Tot.pos (by omega) ?_
    refine Tot.bind (pick_tot hl p 256 h0 (by omega)) ?_
    rintro ⟨r0, p0⟩ ⟨e0, a0, b0, -⟩
    dsimp only at e0 a0 b0 ⊢
    refine Tot.bind (pick_tot hl p0 4 (by omega) (by omega)) ?_
    rintro ⟨r1, p1⟩ ⟨e1, a1, b1, -⟩
    dsimp only at e1 a1 b1 ⊢
    refine Tot.some_bind ?_
    refine Tot.bind (pick_tot hl p1 3 (by omega) (by omega)) ?_
    rintro ⟨r2, p2⟩ ⟨e2, a2, b2, -⟩
    dsimp only at e2 a2 b2 ⊢
    refine Tot.pos a2 (Tot.pos (by simp only [List.length_cons, List.length_nil]; omega) (Tot.pos (by omega) ?_))
    rw [show wrap64 (((n + 1 : Nat) : Int) - 1) = (n : Int) by rw [wrap_id (by omega) (by omega)]; omega]
    refine (l20Bytes_loop hl n _ p2 (by omega) (by rw [List.length_append, List.length_singleton]; omega) (by omega) (by omega)).mono ?_
    rintro ⟨x, q⟩ ⟨h3, h4, h5⟩
    rw [List.length_append, List.length_singleton] at h3
    dsimp only at h3 h4 h5 ⊢
    omega
theorem l20Bytes_10 {l : List Int} (hl : Bytes l) (p : Int) (h0 : 0 ≤ p) (h1 : p ≤ 100000000000) : Tot (fun k => spec_l20Bytes.f k l p 10) (fun x => x.1.length ≤ 10 ∧ p ≤ x.2 ∧ x.2 ≤ p + 100) := by
  unfold spec_l20Bytes.f
  rw [wrap_id (x := 10 + 1) (by omega) (by omega)]
  refine Tot.bind (pick_tot hl p 11 h0 (by omega)) ?_
  rintro ⟨r0, p0⟩ ⟨e0, a0, b0, -⟩
  dsimp only at e0 a0 b0 ⊢
  obtain ⟨n, rfl⟩ := Int.eq_ofNat_of_zero_le a0
  refine (l20Bytes_loop hl n [] p0 (by omega) (by simp only [List.length_nil]; omega) (by omega) (by omega)).mono ?_
  rintro ⟨x, q⟩ ⟨h3, h4, h5⟩
  simp only [List.length_nil] at h3
  dsimp only at h3 h4 h5 ⊢
  omega
theorem drawFormWrite_tot {l : List Int} (hu : ∀ y ∈ l, 0 ≤ y ∧ y ≤ 255) : Tot (fun k => spec_DrawFormWrite.f k l) (fun x => True) := by
  unfold spec_DrawFormWrite.f
  obtain ⟨b, e, hb⟩ := open_some l hu
  rw [e]
  refine Tot.some_bind ?_
  refine Tot.bind (P := fun x => 0 ≤ x.2 ∧ x.2 ≤ 10) ?_ ?_
  · unfold spec_l20Kind.f
    refine Tot.some_bind ?_
    refine Tot.bind (pick_tot hb 0 4 (by omega) (by omega)) ?_
    rintro ⟨r0, p0⟩ ⟨e0, a0, b0, -⟩
    dsimp only at e0 a0 b0 ⊢
    exact Tot.pos a0 (Tot.pos (by simp only [List.length_cons, List.length_nil]; omega) (Tot.ret ⟨by dsimp only; omega, by dsimp only; omega⟩))
  rintro ⟨kd, p1⟩ ⟨h1, h2⟩
  dsimp only at h1 h2 ⊢
  refine Tot.bind (odd_tot hb p1 12 (by omega) (by omega) (by omega)) ?_
  rintro ⟨o, p2⟩ ⟨h3, h4⟩
  dsimp only at h3 h4 ⊢
  refine Tot.ite (fun _ => ?_) (fun _ => ?_)
  · refine Tot.bind (pick_tot hb p2 256 (by omega) (by omega)) ?_
    rintro ⟨r0, p3⟩ ⟨e0, a0, b0, -⟩
    dsimp only at e0 a0 b0 ⊢
    refine Tot.bind (l20Bytes_10 hb p3 (by omega) (by omega)) ?_
    rintro ⟨x, p4⟩ ⟨h5, h6, h7⟩
    dsimp only at h5 h6 h7 ⊢
    refine Tot.bind (l20Ras_tot hb p4 9 (by omega) (by omega) (by omega)) ?_
    rintro ⟨w, h, s, p⟩ _
    exact Tot.ret trivial
  · refine Tot.bind (l20Bytes_10 hb p2 (by omega) (by omega)) ?_
    rintro ⟨x, p4⟩ ⟨h5, h6, h7⟩
    dsimp only at h5 h6 h7 ⊢
    refine Tot.bind (l20Ras_tot hb p4 9 (by omega) (by omega) (by omega)) ?_
    rintro ⟨w, h, s, p⟩ _
    exact Tot.ret trivial
theorem opOkY : Ev (fun k => impl_OpOk.f k 3 0 0 0 0) true := Ev.of (impl_OpOk.mono _ _ _ _ _) (k := 2) (by kernel_rfl)
theorem eaDo_tot {a b : Int} {l : List Pix} (h : rasOkB a b l = true) : Tot (fun k => laws_eaDo.f k a b l [⟨3, 0, 0, 0, 0⟩]) (fun r => r = (a, b, flipL a.toNat b.toNat l)) := by
  unfold laws_eaDo.f
  refine Tot.succ ?_
  simp only [laws_eaDo.l0]
  refine Tot.pos (by simp) (Tot.pos (by omega) ?_)
  refine Tot.bind (P := fun r => r = (a, b, flipL a.toNat b.toNat l, true)) ?_ ?_
  · obtain ⟨K1, h1⟩ := impl_RasOk_ev a b l
    obtain ⟨K2, h2⟩ := opOkY
    refine ⟨_, ⟨K1 + K2, fun k hk => ?_⟩, rfl⟩
    show impl_OpDo.f k a b l 3 0 0 0 0 = _
    unfold impl_OpDo.f
    rw [if_pos ⟨rfl, rfl, rfl, rfl, rfl, (h1 k (by omega)).trans (by rw [h]), h2 k (by omega)⟩]
    rfl
  rintro _ rfl
  refine Tot.succ ?_
  simp only [laws_eaDo.l0]
  rw [wrap_id (x := 0 + 1) (by omega) (by omega)]
  exact Tot.neg (by simp) (Tot.ret rfl)
theorem FnFormUp : laws_FnFormUp.Pure := by
  intro l0 _ _ hw0
  have hu0 : ∀ y ∈ l0, 0 ≤ y ∧ y ≤ 255 := fun y hy => ByteOk (hw0 y hy)
  refine Tot.rounds ?_
  unfold laws_FnFormUp.f
  refine Tot.ite (fun _ => Tot.ret rfl) (fun hl => ?_)
  refine Tot.bind (drawFormWrite_tot hu0) ?_
  rintro ⟨kd, note, a, b, l⟩ _
  dsimp only
  refine Tot.bind (implUp_tot note a b l) ?_; rintro _ rfl
  refine Tot.bind (specUp_tot note a b l) ?_; rintro _ rfl
  have heq : ∀ x : List Int, laws_eaBytes.f x x = some true := fun x => by unfold laws_eaBytes.f; simp
  refine Tot.bind (Tot.of_eq (heq _)) ?_; rintro _ rfl
  refine Tot.pos rfl ?_
  by_cases h9 : 9 < note.length
  · have e : fileK 85 note a b l (upL a b l) = [] := by unfold fileK; rw [if_pos h9]
    rw [e]
    refine Tot.pos rfl ?_
    refine Tot.bind (Tot.of_ev (spec_RasOk_ev a b l)) ?_; rintro _ rfl
    exact Tot.ite (fun _ => Tot.pos (by omega) (Tot.bind (Tot.of_eq rfl) (fun x hx => Tot.ret hx))) (fun _ => Tot.bind (Tot.of_eq rfl) (fun x hx => Tot.ret hx))
  · by_cases h : rasOkB a b l = true
    · have e : fileK 85 note a b l (upL a b l) = 85 :: (((note.length : Int) % 256) :: note ++ upL a b l ++ sum4 (sumF (upL a b l))) := by unfold fileK; rw [if_neg h9, if_pos h]; rfl
      rw [e]
      refine Tot.neg (by rw [List.length_cons]; omega) ?_
      refine Tot.bind (eaDo_tot h) ?_; rintro _ rfl
      dsimp only
      refine Tot.bind (implDown_tot note a b _) ?_; rintro _ rfl
      have e2 : fileK 68 note a b (flipL a.toNat b.toNat l) (rasL a b (flipL a.toNat b.toNat l)) = 68 :: (((note.length : Int) % 256) :: note ++ upL a b l ++ sum4 (sumF (upL a b l))) := by unfold fileK; rw [if_neg h9, if_pos (flip_okB h)]; rfl
      rw [e2]
      generalize ((note.length : Int) % 256) :: note ++ upL a b l ++ sum4 (sumF (upL a b l)) = L
      refine Tot.pos (by simp) (Tot.pos (by rw [List.length_cons]; omega) (Tot.pos (by rw [List.length_cons]; omega) ?_))
      refine Tot.bind (Tot.of_eq (heq _)) ?_; rintro _ rfl
      exact Tot.pos rfl (Tot.pos (by rw [List.length_cons]; omega) (Tot.pos rfl (Tot.pos (by rw [List.length_cons]; omega) (Tot.ret rfl))))
    · have e : fileK 85 note a b l (upL a b l) = [] := by unfold fileK; rw [if_neg h9, if_neg h]
      rw [e]
      refine Tot.pos rfl ?_
      refine Tot.bind (Tot.of_ev (spec_RasOk_ev a b l)) ?_; rintro _ rfl
      exact Tot.neg h (Tot.bind (Tot.of_eq rfl) (fun x hx => Tot.ret hx))
end Go.Proofs.Ytljobjpldbdhoaa.Pure
