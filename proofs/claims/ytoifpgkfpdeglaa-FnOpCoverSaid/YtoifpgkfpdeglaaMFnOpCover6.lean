/- Lemmas and contracts for the law FnOpCover, part 6: of the program's functions, and over data alone. No condition. -/
import Derived.Test.YtoifpgkfpdeglaaMFnOpCover2
import Derived.Test.YtoifpgkfpdeglaaMFnOpCover3
import Derived.Test.YtoifpgkfpdeglaaMFnOpCover5
import Derived.Test.YtoifpgkfpdeglaaMFnOpCover4
namespace Go.Proofs.Ytoifpgkfpdeglaa.X
open Go.RowKit Go.Proofs.YtoifpgkfpdeglaaW.PrintWords Go.Proofs.YtoifpgkfpdeglaaW.PrintLast Go.Proofs.YtoifpgkfpdeglaaW.PrintMore
attribute [local go_sem] max2_int min2_int max_two min_two max_three min_three max_four min_four
set_option linter.unusedVariables false
set_option linter.unusedSimpArgs false
section
open Go.Proofs.YtoifpgkfpdeglaaW.PrintWords.Aside0 renaming mk → yaa
open Go.Proofs.YtoifpgkfpdeglaaW.PrintWords.Kd renaming Q_types → yab, Q_far → yac, Q_below → yah, Q_mono → yaj, Q_alloc → yak, Q_drewN → yal, Q_drew → yan, Q_apart' → yaq, R_far → yar, R_typed → yat
open Go.Proofs.YtoifpgkfpdeglaaW.PrintWords renaming pw_below_drewN → yad, blk_below → yae, below_alloc → yaf, below_drew1 → yag, below_set → yai, blk_far → yao, Aside0 → yap, blk_put → yas, below_step → yau, below_size → yav
open Go.Proofs.Ytoifpgkfpdeglaa.X renaming rd_T36 → yam
mutual
def laws_FnOpCover.j0 : Nat → Bool → Bool → Int → Int → List (S36) → Int → Int → Int → Int → Int → Option (Bool)
 | 0, _, _, _, _, _, _, _, _, _, _ => none
 | k + 1, x6, x44, x112000, x112001, x112002, x113000, x113001, x113002, x113003, x113004 => if x44 = true then (some false) else (if x6 = true then ((laws_eaDo.f k x112000 x112001 x112002 (([(⟨8, 0, 0, 0, 0⟩ : S27), (⟨x113000, x113001, x113002, x113003, x113004⟩ : S27)] : List (S27)))).bind fun bt132 => (laws_FnOpCover.l0 k 0 x112000 x112001 x112002 x113000 x113001 x113002 x113003 x113004 bt132.1 bt132.2.1 bt132.2.2)) else ((laws_eaOk.f).bind fun t128 => (some t128)))
def laws_FnOpCover.l0 : Nat → Int → Int → Int → List (S36) → Int → Int → Int → Int → Int → Int → Int → List (S36) → Option (Bool)
 | 0, _, _, _, _, _, _, _, _, _, _, _, _ => none
 | k + 1, x10, x112000, x112001, x112002, x113000, x113001, x113002, x113003, x113004, x138000, x138001, x138002 => if x10 < (x138002.length : Int) then (if 0 ≤ x10 then (if ((rd_T36 x138002 x10).f3) = 255 then (laws_FnOpCover.l0 k (wrap64 (x10 + 1)) x112000 x112001 x112002 x113000 x113001 x113002 x113003 x113004 x138000 x138001 x138002) else (some false)) else (none)) else (laws_FnOpCover.l1 k 0 x112000 x112001 x112002 x113000 x113001 x113002 x113003 x113004 x138000 x138001 x138002 x112000 x112001 ([] : List (S36)))
def laws_FnOpCover.l1 : Nat → Int → Int → Int → List (S36) → Int → Int → Int → Int → Int → Int → Int → List (S36) → Int → Int → List (S36) → Option (Bool)
 | 0, _, _, _, _, _, _, _, _, _, _, _, _, _, _, _ => none
 | k + 1, x12, x112000, x112001, x112002, x113000, x113001, x113002, x113003, x113004, x138000, x138001, x138002, x140000, x140001, x140002 => if x12 < (x112002.length : Int) then (if 0 ≤ x12 then (if x140002.length < 4398046511104 then (laws_FnOpCover.l1 k (wrap64 (x12 + 1)) x112000 x112001 x112002 x113000 x113001 x113002 x113003 x113004 x138000 x138001 x138002 x140000 x140001 (x140002 ++ [(⟨(rd_T36 x112002 x12).f0, (rd_T36 x112002 x12).f1, (rd_T36 x112002 x12).f2, 0⟩ : S36)])) else (none)) else (none)) else ((laws_eaDo.f k x140000 x140001 x140002 (([(⟨x113000, x113001, x113002, x113003, x113004⟩ : S27)] : List (S27)))).bind fun bt148 => (laws_FnOpCover.l2 k 0 x113000 x113001 x113002 x113003 x113004 x138000 x138001 x138002 bt148.1 bt148.2.1 bt148.2.2))
def laws_FnOpCover.l2 : Nat → Int → Int → Int → Int → Int → Int → Int → Int → List (S36) → Int → Int → List (S36) → Option (Bool)
 | 0, _, _, _, _, _, _, _, _, _, _, _, _ => none
 | k + 1, x15, x113000, x113001, x113002, x113003, x113004, x138000, x138001, x138002, x154000, x154001, x154002 => if x15 < (x154002.length : Int) then (if x113000 = 8 then (laws_FnOpCover.l2 k (wrap64 (x15 + 1)) x113000 x113001 x113002 x113003 x113004 x138000 x138001 x138002 x154000 x154001 x154002) else (if 0 ≤ x15 then (if ((rd_T36 x154002 x15).f3) = 0 then (laws_FnOpCover.l2 k (wrap64 (x15 + 1)) x113000 x113001 x113002 x113003 x113004 x138000 x138001 x138002 x154000 x154001 x154002) else (some false)) else (none))) else (some ((x138002.length : Int) == (x154002.length : Int)))
end
def laws_FnOpCover.f (k : Nat) (l0 : List Int) : Option (Bool) := if (l0.length : Int) > 1048576 then (some true) else ((spec_DrawOpDo.f k l0).bind fun bt101 => ((impl_OpDo.f bt101.1 bt101.2.1 bt101.2.2.1 bt101.2.2.2.1 bt101.2.2.2.2.1 bt101.2.2.2.2.2.1 bt101.2.2.2.2.2.2.1 bt101.2.2.2.2.2.2.2).bind fun bt113 => ((spec_OpDo.f k bt101.1 bt101.2.1 bt101.2.2.1 bt101.2.2.2.1 bt101.2.2.2.2.1 bt101.2.2.2.2.2.1 bt101.2.2.2.2.2.2.1 bt101.2.2.2.2.2.2.2).bind fun bt120 => ((laws_eaRas.f k bt113.1 bt113.2.1 bt113.2.2.1 bt120.1 bt120.2.1 bt120.2.2.1).bind fun t127 => (if t127 = true then (laws_FnOpCover.j0 k bt113.2.2.2 (bt113.2.2.2 != bt120.2.2.2) bt101.1 bt101.2.1 bt101.2.2.1 bt101.2.2.2.1 bt101.2.2.2.2.1 bt101.2.2.2.2.2.1 bt101.2.2.2.2.2.2.1 bt101.2.2.2.2.2.2.2) else (laws_FnOpCover.j0 k bt113.2.2.2 true bt101.1 bt101.2.1 bt101.2.2.1 bt101.2.2.2.1 bt101.2.2.2.2.1 bt101.2.2.2.2.2.1 bt101.2.2.2.2.2.2.1 bt101.2.2.2.2.2.2.2))))))
theorem ld36_ {ev : Operand → Value} {W : World} {b : Nat} {x0 x1 x2 x3 : Int} (he : ev (.tmp 13) = .pointer (some ⟨b, 0, none⟩)) (h : W.heap[b]? = some (.cells #[.int .i64 x0, .int .i64 x1, .int .i64 x2, .int .i64 x3] 36 (0, 0))) : (execOp ev { dst := some 87, op := .load 36 (.tmp 13), type := 36, pos := "laws.go:1871", after := #[], guard := none }).run Try.prog W = .ok (.value (.agg #[.int .i64 x0, .int .i64 x1, .int .i64 x2, .int .i64 x3])) W := by
 have hu36 := Try.underlying36
 obtain ⟨a0, a1, a2, a3⟩ := cc4_ h; clear h
 go_simp
set_option maxHeartbeats 40000000 in
set_option maxRecDepth 100000 in
theorem laws_FnOpCover.calls (k : Nat) (A0 : Option Addr) (c0 : Nat) (l0 : List Int) (r : Bool) (w : World) (hr0 : Kd.C (Kd.int .u8) w A0 l0.length l0) (hc0 : l0.length ≤ c0) (h : laws_FnOpCover.f k l0 = some r) (hrt : r = true) :
  Calls Try.prog 3 #[.slice A0 l0.length c0] w fun e w' => e = .returned (.bool r) ∧ Below w.heap.size w w' := by
 have hu25 := Try.underlying25; have hu27 := Try.underlying27; have hu36 := Try.underlying36; have HR0 := yaa hr0; have HC0 := yaa hc0; clear hr0 hc0; have HB := yaa (Below.refl w.heap.size w); have H : (if (l0.length : Int) > 1048576 then (some true) else ((spec_DrawOpDo.f k l0).bind fun d3 => ((impl_OpDo.f d3.1 d3.2.1 d3.2.2.1 d3.2.2.2.1 d3.2.2.2.2.1 d3.2.2.2.2.2.1 d3.2.2.2.2.2.2.1 d3.2.2.2.2.2.2.2).bind fun u9 => ((spec_OpDo.f k d3.1 d3.2.1 d3.2.2.1 d3.2.2.2.1 d3.2.2.2.2.1 d3.2.2.2.2.2.1 d3.2.2.2.2.2.2.1 d3.2.2.2.2.2.2.2).bind fun z4 => ((laws_eaRas.f k u9.1 u9.2.1 u9.2.2.1 z4.1 z4.2.1 z4.2.2.1).bind fun K8 => (if K8 = true then (laws_FnOpCover.j0 k u9.2.2.2 (u9.2.2.2 != z4.2.2.2) d3.1 d3.2.1 d3.2.2.1 d3.2.2.2.1 d3.2.2.2.2.1 d3.2.2.2.2.2.1 d3.2.2.2.2.2.2.1 d3.2.2.2.2.2.2.2) else (laws_FnOpCover.j0 k u9.2.2.2 true d3.1 d3.2.1 d3.2.2.1 d3.2.2.2.1 d3.2.2.2.2.1 d3.2.2.2.2.2.1 d3.2.2.2.2.2.2.1 d3.2.2.2.2.2.2.2))))))) = some r := h; clear h
 by_cases c2 : (l0.length : Int) > 1048576
 ·
  rw [if_pos c2] at H
  have D7 : decide (1048576 < (l0.length : Int)) = true := decide_eq_true c2; have D8 : decide (1048576 < l0.length) = true := decide_eq_true (by omega); clear c2; obtain rfl := Option.some.inj H
  go_enter Try.func3, Try.ntmps3
  go_wp2
  go_ret
  exact ⟨by first | rfl | (simp [*, errW_none, errW_some] <;> rfl), upH HB.out⟩
 rw [if_neg c2] at H
 have D7 : decide (1048576 < (l0.length : Int)) = false := decide_eq_false c2; have D8 : decide (1048576 < l0.length) = false := decide_eq_false (by omega); clear c2; obtain ⟨⟨e2, e8, a6, e3, e9, f4, f5, f7⟩, A3, H⟩ := bindA H; (try dsimp only at H); obtain ⟨⟨j2, j8, d1, J8⟩, A4, H⟩ := bindA H; (try dsimp only at H); obtain ⟨⟨h2, h5, d0, L5⟩, A5, H⟩ := bindA H; (try dsimp only at H); have HC6 := yaa H; clear H
 go_enter Try.func3, Try.ntmps3
 go_upto_region 6 with (first | ((with_reducible refine gc_ 10 rfl ?_); refine gl_ (some 21) rfl Try.func10 #[.slice A0 l0.length c0] ?_; (with_reducible refine (spec_DrawOpDo.calls k _ _ l0 e2 e8 a6 e3 e9 f4 f5 f7 _ ?side1 ?side2 A3.out).mono ?_); (case side1 => repeat (first | exact HR0.out | (with_reducible refine Kd.C_alloc ?_ _) | (with_reducible refine Kd.C_drewN ?_ _) | (with_reducible refine Kd.C_drew ?_))); (case side2 => exact HC0.out); rintro e w7 ⟨gJ, rfl, ho0, hb⟩; refine ⟨_, rfl, ?_⟩; have e4 := yaa (Kd.Q_lower ho0 (yav (upH HB.out))); replace HB := yaa (yau (upH HB.out) hb); (try clear hb ho0)) | ((with_reducible refine gd_ 3 rfl ?_); refine bx_ 3 rfl #[.int .i64 0, .int .i64 0, .slice none 0 0] 25 ?_; intro d2 hg w8 hbox hb; replace e4 := yaa (yah (upQ e4.out) hb); have a3 := yaa (hbox); have L6 := yaa ((by rw [hg]; exact (yav (upH HB.out)) : w.heap.size ≤ d2)); replace HB := yaa (yau (upH HB.out) hb); have cK := L6; clear hb hbox hg) | ((with_reducible refine gd_ 4 rfl ?_); refine bx_ 4 rfl #[.int .i64 0, .int .i64 0, .int .i64 0, .int .i64 0, .int .i64 0] 27 ?_; intro b6 hg w9 hbox hb; replace e4 := yaa (yah (upQ e4.out) hb); have a2 := yaa (hbox); have L7 := yaa ((by rw [hg]; exact (yav (by repeat (with_reducible first | exact HB.out | apply yaf | apply yad | apply yag | refine yai ?_ (Aside0.out ‹_›)))) : w.heap.size ≤ b6)); replace HB := yaa (yau (by repeat (with_reducible first | exact HB.out | apply yaf | apply yad | apply yag | refine yai ?_ (Aside0.out ‹_›))) hb); have cL := L7; have d6 := yaa ((by rw [hg]; exact Nat.ne_of_lt (blk_lt (upB a3.out)) : d2 ≠ b6)); replace a3 := yaa (yae (upB a3.out) hb); have e5 := yaa d6.out.symm; clear hb hbox hg; have cM := d6.out; have cN := e5.out; obtain ⟨n2, n3, n4⟩ := cc3_ a3.out; obtain ⟨n5, n6, n7⟩ := cf3_ a3.out; obtain ⟨f6, e1, S2, _⟩ := Kd.Q_slice e4.out; subst S2; obtain ⟨n8, n9, o0, o1, o2⟩ := cc5_ a2.out; obtain ⟨o3, o4, o5, o6⟩ := cf4_ a2.out; have o7 := blk_frozen a2.out 4) | ((with_reducible refine gc_ 11 rfl ?_); refine gl_ (some 27) rfl Try.func11 #[.agg #[.int .i64 e2, .int .i64 e8, .slice f6 a6.length e1], .agg #[.int .i64 e3, .int .i64 e9, .int .i64 f4, .int .i64 f5, .int .i64 f7]] ?_; (with_reducible refine (impl_OpDo.calls e2 e8 _ _ a6 e3 e9 f4 f5 f7 j2 j8 d1 J8 _ ?side1 ?side2 A4.out).mono ?_); (case side1 => refine (Kd.Q_reads' (e := 36) (base := w.heap.size) (ok := fun k_ => True) (n := a6.length) (c := e1) ?_).2.2; exact (by (with_reducible repeat (first | apply yak | apply yal | apply yan)); exact (yaj (yaj (yac (p := ⟨b6, 4, none⟩) (yac (p := ⟨b6, 3, none⟩) (yac (p := ⟨b6, 2, none⟩) (yac (p := ⟨b6, 1, none⟩) (yac (p := ⟨b6, 0, none⟩) (yac (p := ⟨d2, 2, none⟩) (yac (p := ⟨d2, 1, none⟩) (yac (p := ⟨d2, 0, none⟩) (yab (yab e4.out a3.out (by decide)) a2.out (by decide)) (fun _ hk => hk.1.2) (.int .i64 e2)) (fun _ hk => hk.1.2) (.int .i64 e8)) (fun _ hk => hk.1.2) (.slice f6 a6.length e1)) (fun _ hk => hk.2) (.int .i64 e3)) (fun _ hk => hk.2) (.int .i64 e9)) (fun _ hk => hk.2) (.int .i64 f4)) (fun _ hk => hk.2) (.int .i64 f5)) (fun _ hk => hk.2) (.int .i64 f7)) (fun _ h_ => h_.1)) (fun _ h_ => h_.1)))); (case side2 => exact (Kd.Q_reads' e4.out).2.1); rintro e w14 ⟨gK, rfl, ho0, hb⟩; refine ⟨_, rfl, ?_⟩; have g4 := yaa (Kd.R_lower (Kd.R_new' ho0 (Kd.Q_lt (by (with_reducible repeat (first | apply yak | apply yal | apply yan)); exact (yaj (yaj (yac (p := ⟨b6, 4, none⟩) (yac (p := ⟨b6, 3, none⟩) (yac (p := ⟨b6, 2, none⟩) (yac (p := ⟨b6, 1, none⟩) (yac (p := ⟨b6, 0, none⟩) (yac (p := ⟨d2, 2, none⟩) (yac (p := ⟨d2, 1, none⟩) (yac (p := ⟨d2, 0, none⟩) (yab (yab e4.out a3.out (by decide)) a2.out (by decide)) (fun _ hk => hk.1.2) (.int .i64 e2)) (fun _ hk => hk.1.2) (.int .i64 e8)) (fun _ hk => hk.1.2) (.slice f6 a6.length e1)) (fun _ hk => hk.2) (.int .i64 e3)) (fun _ hk => hk.2) (.int .i64 e9)) (fun _ hk => hk.2) (.int .i64 f4)) (fun _ hk => hk.2) (.int .i64 f5)) (fun _ hk => hk.2) (.int .i64 f7)) (fun _ h_ => h_.1)) (fun _ h_ => h_.1))))) (yav (by repeat (with_reducible first | exact HB.out | apply yaf | apply yad | apply yag | refine yai ?_ (Aside0.out ‹_›))))); replace e4 := yaa (Kd.Q_elder' (by (with_reducible repeat (first | apply yak | apply yal | apply yan)); exact (yaj (yaj (yac (p := ⟨b6, 4, none⟩) (yac (p := ⟨b6, 3, none⟩) (yac (p := ⟨b6, 2, none⟩) (yac (p := ⟨b6, 1, none⟩) (yac (p := ⟨b6, 0, none⟩) (yac (p := ⟨d2, 2, none⟩) (yac (p := ⟨d2, 1, none⟩) (yac (p := ⟨d2, 0, none⟩) (yab (yab e4.out a3.out (by decide)) a2.out (by decide)) (fun _ hk => hk.1.2) (.int .i64 e2)) (fun _ hk => hk.1.2) (.int .i64 e8)) (fun _ hk => hk.1.2) (.slice f6 a6.length e1)) (fun _ hk => hk.2) (.int .i64 e3)) (fun _ hk => hk.2) (.int .i64 e9)) (fun _ hk => hk.2) (.int .i64 f4)) (fun _ hk => hk.2) (.int .i64 f5)) (fun _ hk => hk.2) (.int .i64 f7)) (fun _ h_ => h_.1)) (fun _ h_ => h_.1))) (Kd.R_base ho0) hb); replace a3 := yaa (yae (g := d2) (o := .cells #[.int .i64 e2, .int .i64 e8, .slice f6 a6.length e1] 25 (0, 0)) (by (repeat refine oneB ?_); refine yao ?_ d6.out _; (repeat refine oneB ?_); refine yao ?_ d6.out _; (repeat refine oneB ?_); refine yao ?_ d6.out _; (repeat refine oneB ?_); refine yao ?_ d6.out _; (repeat refine oneB ?_); refine yao ?_ d6.out _; (repeat refine oneB ?_); refine yas (cs := #[.int .i64 e2, .int .i64 e8, .slice none 0 0]) ?_ 2 _ rfl; refine yas (cs := #[.int .i64 e2, .int .i64 0, .slice none 0 0]) ?_ 1 _ rfl; refine yas (cs := #[.int .i64 0, .int .i64 0, .slice none 0 0]) ?_ 0 _ rfl; exact upB a3.out) hb); replace a2 := yaa (yae (g := b6) (o := .cells #[.int .i64 e3, .int .i64 e9, .int .i64 f4, .int .i64 f5, .int .i64 f7] 27 (0, 0)) (by (repeat refine oneB ?_); refine yas (cs := #[.int .i64 e3, .int .i64 e9, .int .i64 f4, .int .i64 f5, .int .i64 0]) ?_ 4 _ rfl; refine yas (cs := #[.int .i64 e3, .int .i64 e9, .int .i64 f4, .int .i64 0, .int .i64 0]) ?_ 3 _ rfl; refine yas (cs := #[.int .i64 e3, .int .i64 e9, .int .i64 0, .int .i64 0, .int .i64 0]) ?_ 2 _ rfl; refine yas (cs := #[.int .i64 e3, .int .i64 0, .int .i64 0, .int .i64 0, .int .i64 0]) ?_ 1 _ rfl; refine yas (cs := #[.int .i64 0, .int .i64 0, .int .i64 0, .int .i64 0, .int .i64 0]) ?_ 0 _ rfl; (repeat refine oneB ?_); refine yao ?_ e5.out _; (repeat refine oneB ?_); refine yao ?_ e5.out _; (repeat refine oneB ?_); refine yao ?_ e5.out _; exact upB a2.out) hb); replace HB := yaa (yau (by repeat (with_reducible first | exact HB.out | apply yaf | apply yad | apply yag | refine yai ?_ (Aside0.out ‹_›))) hb); (try clear hb ho0)) | ((with_reducible refine gd_ 5 rfl ?_); refine bx_ 5 rfl #[.int .i64 0, .int .i64 0, .slice none 0 0] 25 ?_; intro b8 hg w15 hbox hb; replace e4 := yaa (yah (upQ e4.out) hb); replace g4 := yaa (Kd.R_below (upR g4.out) hb); have a9 := yaa (hbox); have L9 := yaa ((by rw [hg]; exact (yav (by repeat (with_reducible first | exact HB.out | apply yaf | apply yad | apply yag | refine yai ?_ (Aside0.out ‹_›)))) : w.heap.size ≤ b8)); replace HB := yaa (yau (by repeat (with_reducible first | exact HB.out | apply yaf | apply yad | apply yag | refine yai ?_ (Aside0.out ‹_›))) hb); have cO := L9; have f8 := yaa ((by rw [hg]; exact Nat.ne_of_lt (blk_lt (upB a3.out)) : d2 ≠ b8)); replace a3 := yaa (yae (upB a3.out) hb); have g5 := yaa f8.out.symm; have f9 := yaa ((by rw [hg]; exact Nat.ne_of_lt (blk_lt (upB a2.out)) : b6 ≠ b8)); replace a2 := yaa (yae (upB a2.out) hb); have g6 := yaa f9.out.symm; clear hb hbox hg; have cP := g5.out; have cQ := f8.out; have cR := g6.out; have cS := f9.out; obtain ⟨o8, o9, p0⟩ := cc3_ a9.out; obtain ⟨p3, p4, p5⟩ := cf3_ a9.out; obtain ⟨e0, d9, S3⟩ := Kd.R_slice g4.out; subst S3; obtain ⟨p7, p8, p9⟩ := cc3_ a3.out; obtain ⟨q0, q2, q3⟩ := cf3_ a3.out; obtain ⟨q4, q5, q6, q7, q8⟩ := cc5_ a2.out; obtain ⟨q9, r0, r1, r2⟩ := cf4_ a2.out; have r3 := blk_frozen a2.out 4) | ((with_reducible refine gc_ 12 rfl ?_); refine gl_ (some 33) rfl Try.func12 #[.agg #[.int .i64 e2, .int .i64 e8, .slice f6 a6.length e1], .agg #[.int .i64 e3, .int .i64 e9, .int .i64 f4, .int .i64 f5, .int .i64 f7]] ?_; (with_reducible refine (spec_OpDo.calls k e2 e8 _ _ a6 e3 e9 f4 f5 f7 h2 h5 d0 L5 _ ?side1 ?side2 A5.out).mono ?_); (case side1 => refine (Kd.Q_reads' (e := 36) (base := w.heap.size) (ok := fun k_ => (True ∧ some k_ ≠ (.slice e0 d1.length d9 : Value).ownBlock)) (n := a6.length) (c := e1) ?_).2.2; exact (by (with_reducible repeat (first | apply yak | apply yal | apply yan)); exact (yaj (yac (p := ⟨b8, 2, none⟩) (yac (p := ⟨b8, 1, none⟩) (yac (p := ⟨b8, 0, none⟩) (yab e4.out a9.out (by decide)) (fun _ hk => hk.2) (.int .i64 j2)) (fun _ hk => hk.2) (.int .i64 j8)) (fun _ hk => hk.2) (.slice e0 d1.length d9)) (fun _ h_ => h_.1)))); (case side2 => exact (Kd.Q_reads' e4.out).2.1); rintro e w22 ⟨gL, rfl, ho0, hb⟩; refine ⟨_, rfl, ?_⟩; have j4 := yaa (Kd.R_lower (Kd.R_new' (Kd.R_new' ho0 (Kd.Q_lt (by (with_reducible repeat (first | apply yak | apply yal | apply yan)); exact (yaj (yac (p := ⟨b8, 2, none⟩) (yac (p := ⟨b8, 1, none⟩) (yac (p := ⟨b8, 0, none⟩) (yab e4.out a9.out (by decide)) (fun _ hk => hk.2) (.int .i64 j2)) (fun _ hk => hk.2) (.int .i64 j8)) (fun _ hk => hk.2) (.slice e0 d1.length d9)) (fun _ h_ => h_.1))))) (Kd.R_lt (by (with_reducible repeat (first | apply Kd.R_alloc | apply Kd.R_drewN | apply Kd.R_drew)); exact (Kd.R_mono (yar (p := ⟨b8, 2, none⟩) (yar (p := ⟨b8, 1, none⟩) (yar (p := ⟨b8, 0, none⟩) (Kd.R_types g4.out a9.out (by decide)) (fun _ hk => hk.2) (.int .i64 j2)) (fun _ hk => hk.2) (.int .i64 j8)) (fun _ hk => hk.2) (.slice e0 d1.length d9)) (fun _ h_ => h_.1))))) (yav (by repeat (with_reducible first | exact HB.out | apply yaf | apply yad | apply yag | refine yai ?_ (Aside0.out ‹_›))))); replace e4 := yaa (Kd.Q_elder' (by (with_reducible repeat (first | apply yak | apply yal | apply yan)); exact (yaj (yac (p := ⟨b8, 2, none⟩) (yac (p := ⟨b8, 1, none⟩) (yac (p := ⟨b8, 0, none⟩) (yab e4.out a9.out (by decide)) (fun _ hk => hk.2) (.int .i64 j2)) (fun _ hk => hk.2) (.int .i64 j8)) (fun _ hk => hk.2) (.slice e0 d1.length d9)) (fun _ h_ => h_.1))) (Kd.R_base ho0) hb); replace g4 := yaa (Kd.R_elder' (by (with_reducible repeat (first | apply Kd.R_alloc | apply Kd.R_drewN | apply Kd.R_drew)); exact (Kd.R_mono (yar (p := ⟨b8, 2, none⟩) (yar (p := ⟨b8, 1, none⟩) (yar (p := ⟨b8, 0, none⟩) (Kd.R_types g4.out a9.out (by decide)) (fun _ hk => hk.2) (.int .i64 j2)) (fun _ hk => hk.2) (.int .i64 j8)) (fun _ hk => hk.2) (.slice e0 d1.length d9)) (fun _ h_ => h_.1))) (Kd.R_base ho0) hb); replace a3 := yaa (yae (g := d2) (o := .cells #[.int .i64 e2, .int .i64 e8, .slice f6 a6.length e1] 25 (0, 0)) (by repeat (with_reducible first | exact a3.out | refine oneB ?_ | refine yao ?_ f8.out _)) hb); replace a2 := yaa (yae (g := b6) (o := .cells #[.int .i64 e3, .int .i64 e9, .int .i64 f4, .int .i64 f5, .int .i64 f7] 27 (0, 0)) (by repeat (with_reducible first | exact a2.out | refine oneB ?_ | refine yao ?_ f9.out _)) hb); replace a9 := yaa (yae (g := b8) (o := .cells #[.int .i64 j2, .int .i64 j8, .slice e0 d1.length d9] 25 (0, 0)) (by (repeat refine oneB ?_); refine yas (cs := #[.int .i64 j2, .int .i64 j8, .slice none 0 0]) ?_ 2 _ rfl; refine yas (cs := #[.int .i64 j2, .int .i64 0, .slice none 0 0]) ?_ 1 _ rfl; refine yas (cs := #[.int .i64 0, .int .i64 0, .slice none 0 0]) ?_ 0 _ rfl; exact upB a9.out) hb); replace HB := yaa (yau (by repeat (with_reducible first | exact HB.out | apply yaf | apply yad | apply yag | refine yai ?_ (Aside0.out ‹_›))) hb); (try clear hb ho0)) | ((with_reducible refine gd_ 7 rfl ?_); refine bx_ 7 rfl #[.int .i64 0, .int .i64 0, .slice none 0 0] 25 ?_; intro b3 hg w23 hbox hb; replace e4 := yaa (yah (upQ e4.out) hb); replace g4 := yaa (Kd.R_below (upR g4.out) hb); replace j4 := yaa (Kd.R_below (upR j4.out) hb); have b0 := yaa (hbox); have M0 := yaa ((by rw [hg]; exact (yav (by repeat (with_reducible first | exact HB.out | apply yaf | apply yad | apply yag | refine yai ?_ (Aside0.out ‹_›)))) : w.heap.size ≤ b3)); replace HB := yaa (yau (by repeat (with_reducible first | exact HB.out | apply yaf | apply yad | apply yag | refine yai ?_ (Aside0.out ‹_›))) hb); have cT := M0; have e6 := yaa ((by rw [hg]; exact Nat.ne_of_lt (blk_lt (upB a3.out)) : d2 ≠ b3)); replace a3 := yaa (yae (upB a3.out) hb); have g7 := yaa e6.out.symm; have e7 := yaa ((by rw [hg]; exact Nat.ne_of_lt (blk_lt (upB a2.out)) : b6 ≠ b3)); replace a2 := yaa (yae (upB a2.out) hb); have g8 := yaa e7.out.symm; have h7 := yaa ((by rw [hg]; exact Nat.ne_of_lt (blk_lt (upB a9.out)) : b8 ≠ b3)); replace a9 := yaa (yae (upB a9.out) hb); have l8 := yaa h7.out.symm; clear hb hbox hg; have cU := g7.out; have cV := e6.out; have cW := g8.out; have cX := e7.out; have cY := l8.out; have cZ := h7.out; obtain ⟨r4, r5, r6⟩ := cc3_ b0.out; obtain ⟨r7, r8, r9⟩ := cf3_ b0.out; obtain ⟨d8, d7, S4⟩ := Kd.R_slice j4.out; subst S4))
 (try simp only [Act.put, List.setIfInBounds_toArray, List.set_cons_zero, List.set_cons_succ])
 go_cut [44] (fun v44 wc => ∃ (kq : Nat) (z5 : Bool), v44 = .bool z5 ∧ yap (laws_FnOpCover.j0 kq J8 z5 e2 e8 a6 e3 e9 f4 f5 f7 = some r) ∧ yap (kq ≤ k) ∧ yap (Kd.Q k36 36 wc w.heap.size (fun k_ => some k_ ≠ ((.slice e0 d1.length d9) : Value).ownBlock ∧ some k_ ≠ ((.slice d8 d0.length d7) : Value).ownBlock) (.slice f6 a6.length e1) a6) ∧ yap (Kd.Q k36 36 wc w.heap.size (fun k_ => some k_ ≠ ((.slice f6 a6.length e1) : Value).ownBlock ∧ some k_ ≠ ((.slice d8 d0.length d7) : Value).ownBlock) (.slice e0 d1.length d9) d1) ∧ yap (Kd.Q k36 36 wc w.heap.size (fun k_ => some k_ ≠ ((.slice f6 a6.length e1) : Value).ownBlock ∧ some k_ ≠ ((.slice e0 d1.length d9) : Value).ownBlock) (.slice d8 d0.length d7) d0) ∧ yap (wc.heap[d2]? = some (.cells #[.int .i64 e2, .int .i64 e8, (.slice f6 a6.length e1)] 25 (0, 0))) ∧ yap (wc.heap[b6]? = some (.cells #[.int .i64 e3, .int .i64 e9, .int .i64 f4, .int .i64 f5, .int .i64 f7] 27 (0, 0))) ∧ yap (wc.heap[b8]? = some (.cells #[.int .i64 j2, .int .i64 j8, (.slice e0 d1.length d9)] 25 (0, 0))) ∧ yap (wc.heap[b3]? = some (.cells #[.int .i64 h2, .int .i64 h5, (.slice d8 d0.length d7)] 25 (0, 0))) ∧ yap (Below w.heap.size w wc))
 case first =>
  have H := HC6.out; clear HC6; obtain ⟨K8, A29, H⟩ := bindA H; (try dsimp only at H)
  by_cases c30 : K8 = true
  ·
   subst c30
   rw [if_pos rfl] at H
   have H' := yaa H; clear H; have dA := g5.out; have dB := f8.out; have dC := g6.out; have dD := f9.out; have dE := h7.out; have dF := l8.out; obtain ⟨s0, s1, s2⟩ := cc3_ a9.out; obtain ⟨s3, s4, s5⟩ := cf3_ a9.out; have dG := g7.out; have dH := e6.out; have dI := g8.out; have dJ := e7.out; obtain ⟨s6, s7, s8⟩ := cc3_ b0.out; obtain ⟨s9, t0, t1⟩ := cf3_ b0.out
   go_wp2_with (first | ((with_reducible refine gc_ 13 rfl ?_); refine gl_ (some 38) rfl Try.func13 #[.agg #[.int .i64 j2, .int .i64 j8, .slice e0 d1.length d9], .agg #[.int .i64 h2, .int .i64 h5, .slice d8 d0.length d7]] ?_; (with_reducible refine (laws_eaRas.calls k j2 j8 _ _ d1 h2 h5 _ _ d0 true _ ?side1 ?side2 ?side3 ?side4 A29.out).mono ?_); (case side1 => refine (Kd.R_reads' (e := 36) (base := w.heap.size) (ok := fun k_ => ((True ∧ some k_ ≠ (.slice f6 a6.length e1 : Value).ownBlock) ∧ some k_ ≠ (.slice d8 d0.length d7 : Value).ownBlock)) (n := d1.length) (c := d9) ?_).2.2; exact (by (with_reducible repeat (first | apply Kd.R_alloc | apply Kd.R_drewN | apply Kd.R_drew)); exact (Kd.R_mono (yar (p := ⟨b3, 2, none⟩) (yar (p := ⟨b3, 1, none⟩) (yar (p := ⟨b3, 0, none⟩) (Kd.R_types g4.out b0.out (by decide)) (fun _ hk => hk.2) (.int .i64 h2)) (fun _ hk => hk.2) (.int .i64 h5)) (fun _ hk => hk.2) (.slice d8 d0.length d7)) (fun _ h_ => h_.1)))); (case side2 => exact (Kd.R_reads' g4.out).2.1); (case side3 => refine (Kd.R_reads' (e := 36) (base := w.heap.size) (ok := fun k_ => ((True ∧ some k_ ≠ (.slice f6 a6.length e1 : Value).ownBlock) ∧ some k_ ≠ (.slice e0 d1.length d9 : Value).ownBlock)) (n := d0.length) (c := d7) ?_).2.2; exact (by (with_reducible repeat (first | apply Kd.R_alloc | apply Kd.R_drewN | apply Kd.R_drew)); exact (Kd.R_mono (yar (p := ⟨b3, 2, none⟩) (yar (p := ⟨b3, 1, none⟩) (yar (p := ⟨b3, 0, none⟩) (Kd.R_types j4.out b0.out (by decide)) (fun _ hk => hk.2) (.int .i64 h2)) (fun _ hk => hk.2) (.int .i64 h5)) (fun _ hk => hk.2) (.slice d8 d0.length d7)) (fun _ h_ => h_.1)))); (case side4 => exact (Kd.R_reads' j4.out).2.1); rintro e w38 ⟨rfl, hb⟩; refine ⟨_, rfl, ?_⟩; replace e4 := yaa (yah (by (with_reducible repeat (first | apply yak | apply yal | apply yan)); exact (yaj (yac (p := ⟨b3, 2, none⟩) (yac (p := ⟨b3, 1, none⟩) (yac (p := ⟨b3, 0, none⟩) (yab e4.out b0.out (by decide)) (fun _ hk => hk.2) (.int .i64 h2)) (fun _ hk => hk.2) (.int .i64 h5)) (fun _ hk => hk.2) (.slice d8 d0.length d7)) (fun _ h_ => h_.1))) hb); replace g4 := yaa (Kd.R_below (by (with_reducible repeat (first | apply Kd.R_alloc | apply Kd.R_drewN | apply Kd.R_drew)); exact (Kd.R_mono (yar (p := ⟨b3, 2, none⟩) (yar (p := ⟨b3, 1, none⟩) (yar (p := ⟨b3, 0, none⟩) (Kd.R_types g4.out b0.out (by decide)) (fun _ hk => hk.2) (.int .i64 h2)) (fun _ hk => hk.2) (.int .i64 h5)) (fun _ hk => hk.2) (.slice d8 d0.length d7)) (fun _ h_ => h_.1))) hb); replace j4 := yaa (Kd.R_below (by (with_reducible repeat (first | apply Kd.R_alloc | apply Kd.R_drewN | apply Kd.R_drew)); exact (Kd.R_mono (yar (p := ⟨b3, 2, none⟩) (yar (p := ⟨b3, 1, none⟩) (yar (p := ⟨b3, 0, none⟩) (Kd.R_types j4.out b0.out (by decide)) (fun _ hk => hk.2) (.int .i64 h2)) (fun _ hk => hk.2) (.int .i64 h5)) (fun _ hk => hk.2) (.slice d8 d0.length d7)) (fun _ h_ => h_.1))) hb); replace a3 := yaa (yae (g := d2) (o := .cells #[.int .i64 e2, .int .i64 e8, .slice f6 a6.length e1] 25 (0, 0)) (by repeat (with_reducible first | exact a3.out | refine oneB ?_ | refine yao ?_ e6.out _)) hb); replace a2 := yaa (yae (g := b6) (o := .cells #[.int .i64 e3, .int .i64 e9, .int .i64 f4, .int .i64 f5, .int .i64 f7] 27 (0, 0)) (by repeat (with_reducible first | exact a2.out | refine oneB ?_ | refine yao ?_ e7.out _)) hb); replace a9 := yaa (yae (g := b8) (o := .cells #[.int .i64 j2, .int .i64 j8, .slice e0 d1.length d9] 25 (0, 0)) (by repeat (with_reducible first | exact a9.out | refine oneB ?_ | refine yao ?_ h7.out _)) hb); replace b0 := yaa (yae (g := b3) (o := .cells #[.int .i64 h2, .int .i64 h5, .slice d8 d0.length d7] 25 (0, 0)) (by (repeat refine oneB ?_); refine yas (cs := #[.int .i64 h2, .int .i64 h5, .slice none 0 0]) ?_ 2 _ rfl; refine yas (cs := #[.int .i64 h2, .int .i64 0, .slice none 0 0]) ?_ 1 _ rfl; refine yas (cs := #[.int .i64 0, .int .i64 0, .slice none 0 0]) ?_ 0 _ rfl; exact upB b0.out) hb); replace HB := yaa (yau (by repeat (with_reducible first | exact HB.out | apply yaf | apply yad | apply yag | refine yai ?_ (Aside0.out ‹_›))) hb); (try clear hb)))
   go_meet
   case rel => exact ⟨_, ((J8 != L5)), (by first | rfl | (simp; done) | (simp [*]; done)), H', ⟨by first | omega | exact Nat.le_refl _⟩, ⟨by (with_reducible repeat (first | apply yak | apply yal | apply yan)); exact yaj e4.out (fun _ hk => by grind)⟩, ⟨Kd.Q_of_R (by (with_reducible repeat (first | apply Kd.R_alloc | apply Kd.R_drewN | apply Kd.R_drew)); exact Kd.R_mono g4.out (fun _ hk => by grind))⟩, ⟨Kd.Q_of_R (by (with_reducible repeat (first | apply Kd.R_alloc | apply Kd.R_drewN | apply Kd.R_drew)); exact Kd.R_mono j4.out (fun _ hk => by grind))⟩, ⟨by exact upB a3.out⟩, ⟨by exact upB a2.out⟩, ⟨by exact upB a9.out⟩, ⟨by exact upB b0.out⟩, ⟨by repeat (with_reducible first | exact HB.out | apply yaf | apply yad | apply yag | refine yai ?_ (Aside0.out ‹_›))⟩⟩
  replace c30 := Bool.eq_false_iff.mpr c30
  subst c30
  rw [if_neg (show ¬ (false = true) by decide)] at H
  have H' := yaa H; clear H; have dK := g5.out; have dL := f8.out; have dM := g6.out; have dN := f9.out; have dO := h7.out; have dP := l8.out; obtain ⟨t2, t3, t4⟩ := cc3_ a9.out; obtain ⟨t5, t6, t7⟩ := cf3_ a9.out; have dQ := g7.out; have dR := e6.out; have dS := g8.out; have dT := e7.out; obtain ⟨t8, t9, u0⟩ := cc3_ b0.out; obtain ⟨u1, u2, u3⟩ := cf3_ b0.out
  go_wp2_with (first | ((with_reducible refine gc_ 13 rfl ?_); refine gl_ (some 38) rfl Try.func13 #[.agg #[.int .i64 j2, .int .i64 j8, .slice e0 d1.length d9], .agg #[.int .i64 h2, .int .i64 h5, .slice d8 d0.length d7]] ?_; (with_reducible refine (laws_eaRas.calls k j2 j8 _ _ d1 h2 h5 _ _ d0 false _ ?side1 ?side2 ?side3 ?side4 A29.out).mono ?_); (case side1 => refine (Kd.R_reads' (e := 36) (base := w.heap.size) (ok := fun k_ => ((True ∧ some k_ ≠ (.slice f6 a6.length e1 : Value).ownBlock) ∧ some k_ ≠ (.slice d8 d0.length d7 : Value).ownBlock)) (n := d1.length) (c := d9) ?_).2.2; exact (by (with_reducible repeat (first | apply Kd.R_alloc | apply Kd.R_drewN | apply Kd.R_drew)); exact (Kd.R_mono (yar (p := ⟨b3, 2, none⟩) (yar (p := ⟨b3, 1, none⟩) (yar (p := ⟨b3, 0, none⟩) (Kd.R_types g4.out b0.out (by decide)) (fun _ hk => hk.2) (.int .i64 h2)) (fun _ hk => hk.2) (.int .i64 h5)) (fun _ hk => hk.2) (.slice d8 d0.length d7)) (fun _ h_ => h_.1)))); (case side2 => exact (Kd.R_reads' g4.out).2.1); (case side3 => refine (Kd.R_reads' (e := 36) (base := w.heap.size) (ok := fun k_ => ((True ∧ some k_ ≠ (.slice f6 a6.length e1 : Value).ownBlock) ∧ some k_ ≠ (.slice e0 d1.length d9 : Value).ownBlock)) (n := d0.length) (c := d7) ?_).2.2; exact (by (with_reducible repeat (first | apply Kd.R_alloc | apply Kd.R_drewN | apply Kd.R_drew)); exact (Kd.R_mono (yar (p := ⟨b3, 2, none⟩) (yar (p := ⟨b3, 1, none⟩) (yar (p := ⟨b3, 0, none⟩) (Kd.R_types j4.out b0.out (by decide)) (fun _ hk => hk.2) (.int .i64 h2)) (fun _ hk => hk.2) (.int .i64 h5)) (fun _ hk => hk.2) (.slice d8 d0.length d7)) (fun _ h_ => h_.1)))); (case side4 => exact (Kd.R_reads' j4.out).2.1); rintro e w46 ⟨rfl, hb⟩; refine ⟨_, rfl, ?_⟩; replace e4 := yaa (yah (by (with_reducible repeat (first | apply yak | apply yal | apply yan)); exact (yaj (yac (p := ⟨b3, 2, none⟩) (yac (p := ⟨b3, 1, none⟩) (yac (p := ⟨b3, 0, none⟩) (yab e4.out b0.out (by decide)) (fun _ hk => hk.2) (.int .i64 h2)) (fun _ hk => hk.2) (.int .i64 h5)) (fun _ hk => hk.2) (.slice d8 d0.length d7)) (fun _ h_ => h_.1))) hb); replace g4 := yaa (Kd.R_below (by (with_reducible repeat (first | apply Kd.R_alloc | apply Kd.R_drewN | apply Kd.R_drew)); exact (Kd.R_mono (yar (p := ⟨b3, 2, none⟩) (yar (p := ⟨b3, 1, none⟩) (yar (p := ⟨b3, 0, none⟩) (Kd.R_types g4.out b0.out (by decide)) (fun _ hk => hk.2) (.int .i64 h2)) (fun _ hk => hk.2) (.int .i64 h5)) (fun _ hk => hk.2) (.slice d8 d0.length d7)) (fun _ h_ => h_.1))) hb); replace j4 := yaa (Kd.R_below (by (with_reducible repeat (first | apply Kd.R_alloc | apply Kd.R_drewN | apply Kd.R_drew)); exact (Kd.R_mono (yar (p := ⟨b3, 2, none⟩) (yar (p := ⟨b3, 1, none⟩) (yar (p := ⟨b3, 0, none⟩) (Kd.R_types j4.out b0.out (by decide)) (fun _ hk => hk.2) (.int .i64 h2)) (fun _ hk => hk.2) (.int .i64 h5)) (fun _ hk => hk.2) (.slice d8 d0.length d7)) (fun _ h_ => h_.1))) hb); replace a3 := yaa (yae (g := d2) (o := .cells #[.int .i64 e2, .int .i64 e8, .slice f6 a6.length e1] 25 (0, 0)) (by repeat (with_reducible first | exact a3.out | refine oneB ?_ | refine yao ?_ e6.out _)) hb); replace a2 := yaa (yae (g := b6) (o := .cells #[.int .i64 e3, .int .i64 e9, .int .i64 f4, .int .i64 f5, .int .i64 f7] 27 (0, 0)) (by repeat (with_reducible first | exact a2.out | refine oneB ?_ | refine yao ?_ e7.out _)) hb); replace a9 := yaa (yae (g := b8) (o := .cells #[.int .i64 j2, .int .i64 j8, .slice e0 d1.length d9] 25 (0, 0)) (by repeat (with_reducible first | exact a9.out | refine oneB ?_ | refine yao ?_ h7.out _)) hb); replace b0 := yaa (yae (g := b3) (o := .cells #[.int .i64 h2, .int .i64 h5, .slice d8 d0.length d7] 25 (0, 0)) (by (repeat refine oneB ?_); refine yas (cs := #[.int .i64 h2, .int .i64 h5, .slice none 0 0]) ?_ 2 _ rfl; refine yas (cs := #[.int .i64 h2, .int .i64 0, .slice none 0 0]) ?_ 1 _ rfl; refine yas (cs := #[.int .i64 0, .int .i64 0, .slice none 0 0]) ?_ 0 _ rfl; exact upB b0.out) hb); replace HB := yaa (yau (by repeat (with_reducible first | exact HB.out | apply yaf | apply yad | apply yag | refine yai ?_ (Aside0.out ‹_›))) hb); (try clear hb)))
  go_meet
  case rel => exact ⟨_, (true), (by first | rfl | (simp; done) | (simp [*]; done)), H', ⟨by first | omega | exact Nat.le_refl _⟩, ⟨by (with_reducible repeat (first | apply yak | apply yal | apply yan)); exact yaj e4.out (fun _ hk => by grind)⟩, ⟨Kd.Q_of_R (by (with_reducible repeat (first | apply Kd.R_alloc | apply Kd.R_drewN | apply Kd.R_drew)); exact Kd.R_mono g4.out (fun _ hk => by grind))⟩, ⟨Kd.Q_of_R (by (with_reducible repeat (first | apply Kd.R_alloc | apply Kd.R_drewN | apply Kd.R_drew)); exact Kd.R_mono j4.out (fun _ hk => by grind))⟩, ⟨by exact upB a3.out⟩, ⟨by exact upB a2.out⟩, ⟨by exact upB a9.out⟩, ⟨by exact upB b0.out⟩, ⟨by repeat (with_reducible first | exact HB.out | apply yaf | apply yad | apply yag | refine yai ?_ (Aside0.out ‹_›))⟩⟩
 case rest =>
  clear HC6; (try clear c1); (try clear c2); (try clear D7); (try clear D8); (try clear p2); (try clear c3); (try clear c4); (try clear c10); (try clear c11); (try clear c12); (try clear c13); (try clear c16); (try clear c17); (try clear c24); (try clear c25); (try clear c26); (try clear c30); (try clear c31); (try clear c32); (try clear c33); (try clear c35); (try clear c36); (try clear c39); (try clear c40); (try clear c41); (try clear c43); (try clear c44); (try clear n2); (try clear n3); (try clear n4); (try clear n8); (try clear n9); (try clear o0); (try clear o1); (try clear o2); (try clear o8); (try clear o9); (try clear p0); (try clear p7); (try clear p8); (try clear p9); (try clear q4); (try clear q5); (try clear q6); (try clear q7); (try clear q8); (try clear r4); (try clear r5); (try clear r6); (try clear s0); (try clear s1); (try clear s2); (try clear s6); (try clear s7); (try clear s8); (try clear t2); (try clear t3); (try clear t4); (try clear t8); (try clear t9); (try clear u0); (try clear n5); (try clear n6); (try clear n7); (try clear o3); (try clear o4); (try clear o5); (try clear o6); (try clear o7); (try clear p3); (try clear p4); (try clear p5); (try clear q0); (try clear q2); (try clear q3); (try clear q9); (try clear r0); (try clear r1); (try clear r2); (try clear r3); (try clear r7); (try clear r8); (try clear r9); (try clear s3); (try clear s4); (try clear s5); (try clear s9); (try clear t0); (try clear t1); (try clear t5); (try clear t6); (try clear t7); (try clear u1); (try clear u2); (try clear u3); obtain ⟨kq, z5, rfl, HA, HJ5, a1, a4, a5, a3, a2, a9, b0, HB⟩ := hcut
  cases kq with
  | zero => exact absurd HA.out (by simp [laws_FnOpCover.j0])
  | succ kj5 =>
   have H := HA.out; clear HA
   simp only [laws_FnOpCover.j0] at H
   by_cases c47 : z5 = true
   ·
    subst c47
    rw [if_pos rfl] at H
    rw [hrt] at H
    exact absurd H (by simp)
   replace c47 := Bool.eq_false_iff.mpr c47
   subst c47
   rw [if_neg (show ¬ (false = true) by decide)] at H
   by_cases c48 : J8 = true
   rotate_left
   ·
    replace c48 := Bool.eq_false_iff.mpr c48
    subst c48
    rw [if_neg (show ¬ (false = true) by decide)] at H
    obtain ⟨cI, cJ, H⟩ := bindA H; (try dsimp only at H); obtain rfl := Option.some.inj H
    go_wp2_with (first | ((with_reducible refine gc_ 14 rfl ?_); refine gl_ (some 47) rfl Try.func14 #[] ?_; (with_reducible refine (laws_eaOk.calls  cI _ cJ.out).mono ?_); rintro e w191 ⟨rfl, hb⟩; refine ⟨_, rfl, ?_⟩; replace a1 := yaa (yah (upQ a1.out) hb); replace a4 := yaa (yah (upQ a4.out) hb); replace a5 := yaa (yah (upQ a5.out) hb); replace a3 := yaa (yae (upB a3.out) hb); replace a2 := yaa (yae (upB a2.out) hb); replace a9 := yaa (yae (upB a9.out) hb); replace b0 := yaa (yae (upB b0.out) hb); replace HB := yaa (yau (by repeat (with_reducible first | exact HB.out | apply yaf | apply yad | apply yag | refine yai ?_ (Aside0.out ‹_›))) hb); (try clear hb)))
    go_ret
    exact ⟨by first | rfl | (simp [*, errW_none, errW_some] <;> rfl), by repeat (with_reducible first | exact HB.out | apply yaf | apply yad | apply yag | refine yai ?_ (Aside0.out ‹_›))⟩
   subst c48
   rw [if_pos rfl] at H
   obtain ⟨y129, hy129⟩ : ∃ y_ : List (S27), y_ = (([(⟨8, 0, 0, 0, 0⟩ : S27), (⟨e3, e9, f4, f5, f7⟩ : S27)] : List (S27))) := ⟨_, rfl⟩
   conv at H => enter [1, 1, 5]; rw [← hy129]
   have Ny129 := yaa hy129; clear hy129; obtain ⟨⟨l6, l7, h6⟩, A49, H⟩ := bindA H; (try dsimp only at H); have H' := yaa H; clear H; have dU := d6.out; have dV := e5.out; have dW := f8.out; have dX := g5.out; have dY := e6.out; have dZ := g7.out; obtain ⟨v3, v4, v5⟩ := cc3_ a3.out; obtain ⟨v6, v7, v8⟩ := cf3_ a3.out; have eA := f9.out; have eB := g6.out; have eC := e7.out; have eD := g8.out; obtain ⟨v9, w1, w2, w3, w4⟩ := cc5_ a2.out; obtain ⟨w5, w6, x0, x1, x2⟩ := cf5_ a2.out
   go_wp2_with (first | ((with_reducible refine gd_ 51 rfl ?_); refine Kd.R_lit k27 _ 27 ?hg (N := 51) ?hd (xs := ([(⟨8, 0, 0, 0, 0⟩ : S27), (⟨e3, e9, f4, f5, f7⟩ : S27)] : List (S27))) (inner := [.int .i64 8, .int .i64 0, .int .i64 0, .int .i64 0, .int .i64 0, .int .i64 e3, .int .i64 e9, .int .i64 f4, .int .i64 f5, .int .i64 f7]) (ok := fun _ => True) (okp := fun _ => True) ?hr ?hp (fun _ hk => hk) trivial (Below.refl _ _) (Nat.le_refl _) (by simp) ?_; (case hd => rfl); (case hg => first | rfl | (simp [Region.wanted, yielded, *]; done)); (case hr => first | (go_simp; done) | (go_simp; rfl)); (case hp => exact (Reps.c5 (show Kd.M k27 _ _ _ (⟨8, 0, 0, 0, 0⟩ : S27) [.int .i64 8, .int .i64 0, .int .i64 0, .int .i64 0, .int .i64 0] from (k27_mkM _ _ _ (⟨8, 0, 0, 0, 0⟩ : S27) )) (Reps.c5 (show Kd.M k27 _ _ _ (⟨e3, e9, f4, f5, f7⟩ : S27) [.int .i64 e3, .int .i64 e9, .int .i64 f4, .int .i64 f5, .int .i64 f7] from (k27_mkM _ _ _ (⟨e3, e9, f4, f5, f7⟩ : S27) )) (Reps.none _ _)))); intro gM w57 E0 hb hg_ hnew_; clear hg_ hnew_; (first | rw [← Ny129.out] at E0 | (simp only [Int.reduceToNat] at E0; rw [← Ny129.out] at E0)); replace a1 := yaa (yah (upQ a1.out) hb); replace a4 := yaa (yah (upQ a4.out) hb); replace a5 := yaa (yah (upQ a5.out) hb); have h3 := yaa (Kd.R_lower (Kd.R_newB E0 (upB a2.out)) (yav (by repeat (with_reducible first | exact HB.out | apply yaf | apply yad | apply yag | refine yai ?_ (Aside0.out ‹_›))))); replace a3 := yaa (yae (upB a3.out) hb); replace a2 := yaa (yae (upB a2.out) hb); replace a9 := yaa (yae (upB a9.out) hb); replace b0 := yaa (yae (upB b0.out) hb); replace HB := yaa (yau (by repeat (with_reducible first | exact HB.out | apply yaf | apply yad | apply yag | refine yai ?_ (Aside0.out ‹_›))) hb); clear hb E0; obtain ⟨M1, M2, S5⟩ := Kd.R_slice h3.out; subst S5) | ((with_reducible refine gc_ 15 rfl ?_); refine gl_ (some 52) rfl Try.func15 #[.agg #[.int .i64 e2, .int .i64 e8, .slice f6 a6.length e1], .slice M1 y129.length M2] ?_; (with_reducible refine (laws_eaDo.calls kj5 e2 e8 (fun k_ => some k_ = (.slice f6 a6.length e1 : Value).ownBlock) _ _ a6 _ _ y129 l6 l7 h6 _ ?side1 ?side2 ?side3 A49.out).mono ?_); (case side1 => exact Kd.Q_V (Kd.Q_tight rfl (yab (yab (yab (yab (yaq (a1.out) (yat h3.out) (by decide)) a3.out (by decide)) a2.out (by decide)) a9.out (by decide)) b0.out (by decide)))); (case side2 => repeat (first | exact (Kd.R_reads' h3.out).2.2 | (with_reducible refine Kd.C_alloc ?_ _) | (with_reducible refine Kd.C_drewN ?_ _) | (with_reducible refine Kd.C_drew ?_))); (case side3 => exact (Kd.R_reads' h3.out).2.1); rintro e w60 ⟨gN, rfl, ho0, hb⟩; refine ⟨_, rfl, ?_⟩; have z6 := yaa (Kd.V_lower (Kd.V_mono (ok' := fun k_ => some k_ ≠ (.slice e0 d1.length d9 : Value).ownBlock ∧ some k_ ≠ (.slice d8 d0.length d7 : Value).ownBlock ∧ some k_ ≠ (.slice M1 y129.length M2 : Value).ownBlock ∧ k_ ≠ d2 ∧ k_ ≠ b6 ∧ k_ ≠ b8 ∧ k_ ≠ b3) ho0 (fun k_ hk_ => ⟨Or.elim hk_ (fun hs_ => ((yab (yab (yab (yab (yaq (a1.out) (yat h3.out) (by decide)) a3.out (by decide)) a2.out (by decide)) a9.out (by decide)) b0.out (by decide)).1 k_ hs_.symm).1.1.1.1.1.1) (fun hn_ => (Kd.fresh' (Kd.Q_lt (upQ a4.out)) k_ hn_)), Or.elim hk_ (fun hs_ => ((yab (yab (yab (yab (yaq (a1.out) (yat h3.out) (by decide)) a3.out (by decide)) a2.out (by decide)) a9.out (by decide)) b0.out (by decide)).1 k_ hs_.symm).1.1.1.1.1.2) (fun hn_ => (Kd.fresh' (Kd.Q_lt (upQ a5.out)) k_ hn_)), Or.elim hk_ (fun hs_ => ((yab (yab (yab (yab (yaq (a1.out) (yat h3.out) (by decide)) a3.out (by decide)) a2.out (by decide)) a9.out (by decide)) b0.out (by decide)).1 k_ hs_.symm).1.1.1.1.2) (fun hn_ => (Kd.fresh' (Kd.R_lt (upR h3.out)) k_ hn_)), Or.elim hk_ (fun hs_ => ((yab (yab (yab (yab (yaq (a1.out) (yat h3.out) (by decide)) a3.out (by decide)) a2.out (by decide)) a9.out (by decide)) b0.out (by decide)).1 k_ hs_.symm).1.1.1.2) (fun hn_ => (Kd.freshB (upB a3.out) k_ hn_)), Or.elim hk_ (fun hs_ => ((yab (yab (yab (yab (yaq (a1.out) (yat h3.out) (by decide)) a3.out (by decide)) a2.out (by decide)) a9.out (by decide)) b0.out (by decide)).1 k_ hs_.symm).1.1.2) (fun hn_ => (Kd.freshB (upB a2.out) k_ hn_)), Or.elim hk_ (fun hs_ => ((yab (yab (yab (yab (yaq (a1.out) (yat h3.out) (by decide)) a3.out (by decide)) a2.out (by decide)) a9.out (by decide)) b0.out (by decide)).1 k_ hs_.symm).1.2) (fun hn_ => (Kd.freshB (upB a9.out) k_ hn_)), Or.elim hk_ (fun hs_ => ((yab (yab (yab (yab (yaq (a1.out) (yat h3.out) (by decide)) a3.out (by decide)) a2.out (by decide)) a9.out (by decide)) b0.out (by decide)).1 k_ hs_.symm).2) (fun hn_ => (Kd.freshB (upB b0.out) k_ hn_))⟩)) (yav (by repeat (with_reducible first | exact HB.out | apply yaf | apply yad | apply yag | refine yai ?_ (Aside0.out ‹_›))))); replace a1 := yaa (yah (upQ a1.out) hb); replace a4 := yaa (yah (upQ a4.out) hb); replace a5 := yaa (yah (upQ a5.out) hb); replace h3 := yaa (Kd.R_below (upR h3.out) hb); replace a3 := yaa (yae (upB a3.out) hb); replace a2 := yaa (yae (upB a2.out) hb); replace a9 := yaa (yae (upB a9.out) hb); replace b0 := yaa (yae (upB b0.out) hb); replace HB := yaa (yau (by repeat (with_reducible first | exact HB.out | apply yaf | apply yad | apply yag | refine yai ?_ (Aside0.out ‹_›))) hb); (try clear hb ho0)) | ((with_reducible refine gd_ 9 rfl ?_); refine bx_ 9 rfl #[.int .i64 0, .int .i64 0, .slice none 0 0] 25 ?_; intro d4 hg w61 hbox hb; replace a1 := yaa (yah (upQ a1.out) hb); replace a4 := yaa (yah (upQ a4.out) hb); replace a5 := yaa (yah (upQ a5.out) hb); replace h3 := yaa (Kd.R_below (upR h3.out) hb); replace z6 := yaa (Kd.V_below (Kd.V_elderB (upV z6.out) d4 (Nat.le_of_eq hg.symm)) hb); have b5 := yaa (hbox); have M3 := yaa ((by rw [hg]; exact (yav (by repeat (with_reducible first | exact HB.out | apply yaf | apply yad | apply yag | refine yai ?_ (Aside0.out ‹_›)))) : w.heap.size ≤ d4)); replace HB := yaa (yau (by repeat (with_reducible first | exact HB.out | apply yaf | apply yad | apply yag | refine yai ?_ (Aside0.out ‹_›))) hb); have eE := M3; have g1 := yaa ((by rw [hg]; exact Nat.ne_of_lt (blk_lt (upB a3.out)) : d2 ≠ d4)); replace a3 := yaa (yae (upB a3.out) hb); have h8 := yaa g1.out.symm; have g0 := yaa ((by rw [hg]; exact Nat.ne_of_lt (blk_lt (upB a2.out)) : b6 ≠ d4)); replace a2 := yaa (yae (upB a2.out) hb); have g9 := yaa g0.out.symm; have h9 := yaa ((by rw [hg]; exact Nat.ne_of_lt (blk_lt (upB a9.out)) : b8 ≠ d4)); replace a9 := yaa (yae (upB a9.out) hb); have k0 := yaa h9.out.symm; have i0 := yaa ((by rw [hg]; exact Nat.ne_of_lt (blk_lt (upB b0.out)) : b3 ≠ d4)); replace b0 := yaa (yae (upB b0.out) hb); have k1 := yaa i0.out.symm; clear hb hbox hg; have eF := h8.out; have eG := g1.out; have eH := g9.out; have eI := g0.out; have eJ := k0.out; have eK := h9.out; have eL := k1.out; have eM := i0.out; obtain ⟨x3, x4, x5⟩ := cc3_ b5.out; obtain ⟨x7, x8, x9⟩ := cf3_ b5.out; obtain ⟨u4, u5, S6⟩ := Kd.V_slice z6.out; subst S6))
   (try simp only [Act.put, List.setIfInBounds_toArray, List.set_cons_zero, List.set_cons_succ])
   go_loopg [10] kj5 (fun kq v10 w' => ∃ (j9 : Int), v10 = .int .i64 j9 ∧ yap (laws_FnOpCover.l0 kq j9 e2 e8 a6 e3 e9 f4 f5 f7 l6 l7 h6 = some r) ∧ yap (kq ≤ kj5) ∧ yap (Kd.Q k36 36 w' w.heap.size (fun k_ => some k_ ≠ ((.slice e0 d1.length d9) : Value).ownBlock ∧ some k_ ≠ ((.slice d8 d0.length d7) : Value).ownBlock) (.slice f6 a6.length e1) a6) ∧ yap (Kd.Q k36 36 w' w.heap.size (fun k_ => some k_ ≠ ((.slice f6 a6.length e1) : Value).ownBlock ∧ some k_ ≠ ((.slice d8 d0.length d7) : Value).ownBlock) (.slice e0 d1.length d9) d1) ∧ yap (Kd.Q k36 36 w' w.heap.size (fun k_ => some k_ ≠ ((.slice f6 a6.length e1) : Value).ownBlock ∧ some k_ ≠ ((.slice e0 d1.length d9) : Value).ownBlock) (.slice d8 d0.length d7) d0) ∧ yap (Kd.V k36 36 w' w.heap.size (fun k_ => some k_ ≠ ((.slice e0 d1.length d9) : Value).ownBlock ∧ some k_ ≠ ((.slice d8 d0.length d7) : Value).ownBlock ∧ k_ ≠ d2 ∧ k_ ≠ b6 ∧ k_ ≠ b8 ∧ k_ ≠ b3 ∧ k_ ≠ d4) (.slice u4 h6.length u5) h6) ∧ yap (w'.heap[d2]? = some (.cells #[.int .i64 e2, .int .i64 e8, (.slice f6 a6.length e1)] 25 (0, 0))) ∧ yap (w'.heap[b6]? = some (.cells #[.int .i64 e3, .int .i64 e9, .int .i64 f4, .int .i64 f5, .int .i64 f7] 27 (0, 0))) ∧ yap (w'.heap[b8]? = some (.cells #[.int .i64 j2, .int .i64 j8, (.slice e0 d1.length d9)] 25 (0, 0))) ∧ yap (w'.heap[b3]? = some (.cells #[.int .i64 h2, .int .i64 h5, (.slice d8 d0.length d7)] 25 (0, 0))) ∧ yap (w'.heap[d4]? = some (.cells #[.int .i64 l6, .int .i64 l7, (.slice u4 h6.length u5)] 25 (0, 0))) ∧ yap (Below w.heap.size w w'))
   case atStart => exact ⟨(0), (by first | rfl | (simp; done) | (simp [*]; done)), H', ⟨Nat.le_refl _⟩, ⟨by (with_reducible repeat (first | apply yak | apply yal | apply yan)); exact yaj (yac (p := ⟨d4, 2, none⟩) (yac (p := ⟨d4, 1, none⟩) (yac (p := ⟨d4, 0, none⟩) (yab a1.out b5.out (by decide)) (fun _ hk => hk.2) (.int .i64 l6)) (fun _ hk => hk.2) (.int .i64 l7)) (fun _ hk => hk.2) (.slice u4 h6.length u5)) (fun _ hk => by grind)⟩, ⟨by (with_reducible repeat (first | apply yak | apply yal | apply yan)); exact yaj (yac (p := ⟨d4, 2, none⟩) (yac (p := ⟨d4, 1, none⟩) (yac (p := ⟨d4, 0, none⟩) (yab a4.out b5.out (by decide)) (fun _ hk => hk.2) (.int .i64 l6)) (fun _ hk => hk.2) (.int .i64 l7)) (fun _ hk => hk.2) (.slice u4 h6.length u5)) (fun _ hk => by grind)⟩, ⟨by (with_reducible repeat (first | apply yak | apply yal | apply yan)); exact yaj (yac (p := ⟨d4, 2, none⟩) (yac (p := ⟨d4, 1, none⟩) (yac (p := ⟨d4, 0, none⟩) (yab a5.out b5.out (by decide)) (fun _ hk => hk.2) (.int .i64 l6)) (fun _ hk => hk.2) (.int .i64 l7)) (fun _ hk => hk.2) (.slice u4 h6.length u5)) (fun _ hk => by grind)⟩, ⟨by (with_reducible repeat (first | apply Kd.V_alloc | apply Kd.V_drewN | apply Kd.V_drew)); exact Kd.V_mono (Kd.V_far (p := ⟨d4, 2, none⟩) (Kd.V_far (p := ⟨d4, 1, none⟩) (Kd.V_far (p := ⟨d4, 0, none⟩) (Kd.V_mono z6.out (fun k_ hk => (⟨hk, hk.2⟩ : _ ∧ k_ ≠ d4))) (fun _ hk => hk.2) (.int .i64 l6)) (fun _ hk => hk.2) (.int .i64 l7)) (fun _ hk => hk.2) (.slice u4 h6.length u5)) (fun _ hk => by grind)⟩, ⟨by repeat (with_reducible first | exact a3.out | refine oneB ?_ | refine yao ?_ g1.out _)⟩, ⟨by repeat (with_reducible first | exact a2.out | refine oneB ?_ | refine yao ?_ g0.out _)⟩, ⟨by repeat (with_reducible first | exact a9.out | refine oneB ?_ | refine yao ?_ h9.out _)⟩, ⟨by repeat (with_reducible first | exact b0.out | refine oneB ?_ | refine yao ?_ i0.out _)⟩, ⟨by (repeat refine oneB ?_); refine yas (cs := #[.int .i64 l6, .int .i64 l7, .slice none 0 0]) ?_ 2 _ rfl; refine yas (cs := #[.int .i64 l6, .int .i64 0, .slice none 0 0]) ?_ 1 _ rfl; refine yas (cs := #[.int .i64 0, .int .i64 0, .slice none 0 0]) ?_ 0 _ rfl; exact upB b5.out⟩, ⟨by repeat (with_reducible first | exact HB.out | apply yaf | apply yad | apply yag | refine yai ?_ (Aside0.out ‹_›))⟩⟩
   case round =>
    clear H'; (try clear c1); (try clear c2); (try clear D7); (try clear D8); (try clear p2); (try clear c3); (try clear c4); (try clear c5); (try clear c6); (try clear c10); (try clear c11); (try clear c12); (try clear c13); (try clear c15); (try clear c16); (try clear c17); (try clear c24); (try clear c25); (try clear c26); (try clear c30); (try clear c31); (try clear c32); (try clear c33); (try clear c35); (try clear c36); (try clear c39); (try clear c40); (try clear c41); (try clear c43); (try clear c44); (try clear c47); (try clear c48); (try clear c50); (try clear c51); (try clear c52); (try clear c54); (try clear c55); (try clear c62); (try clear c63); (try clear c64); (try clear c65); (try clear n2); (try clear n3); (try clear n4); (try clear n8); (try clear n9); (try clear o0); (try clear o1); (try clear o2); (try clear o8); (try clear o9); (try clear p0); (try clear p7); (try clear p8); (try clear p9); (try clear q4); (try clear q5); (try clear q6); (try clear q7); (try clear q8); (try clear r4); (try clear r5); (try clear r6); (try clear s0); (try clear s1); (try clear s2); (try clear s6); (try clear s7); (try clear s8); (try clear t2); (try clear t3); (try clear t4); (try clear t8); (try clear t9); (try clear u0); (try clear v3); (try clear v4); (try clear v5); (try clear v9); (try clear w1); (try clear w2); (try clear w3); (try clear w4); (try clear x3); (try clear x4); (try clear x5); (try clear n5); (try clear n6); (try clear n7); (try clear o3); (try clear o4); (try clear o5); (try clear o6); (try clear o7); (try clear p3); (try clear p4); (try clear p5); (try clear q0); (try clear q2); (try clear q3); (try clear q9); (try clear r0); (try clear r1); (try clear r2); (try clear r3); (try clear r7); (try clear r8); (try clear r9); (try clear s3); (try clear s4); (try clear s5); (try clear s9); (try clear t0); (try clear t1); (try clear t5); (try clear t6); (try clear t7); (try clear u1); (try clear u2); (try clear u3); (try clear v6); (try clear v7); (try clear v8); (try clear w5); (try clear w6); (try clear x0); (try clear x1); (try clear x2); (try clear x7); (try clear x8); (try clear x9); (try clear p2); obtain ⟨j9, rfl, HA, HK2, a1, a4, a5, b2, a3, a2, a9, b0, b5, HB⟩ := hrel
    cases gk with
    | zero => exact absurd HA.out (by simp [laws_FnOpCover.l0])
    | succ k2 =>
     have H := HA.out; clear HA
     simp only [laws_FnOpCover.l0] at H
     by_cases c68 : j9 < (h6.length : Int)
     ·
      rw [if_pos c68] at H
      have E1 : decide (j9 < (h6.length : Int)) = true := decide_eq_true c68; clear c68
      by_cases c69 : 0 ≤ j9
      ·
       rw [if_pos c69] at H
       replace c69 := decide_eq_true c69
       by_cases c70 : ((yam h6 j9).f3) = 255
       ·
        rw [if_pos c70] at H
        have E2 := beq_iff_eq.mpr c70; have E3 := bne_eq_false_iff_eq.mpr c70; clear c70; have H' := yaa H; clear H; have eN := h8.out; have eO := g1.out; have eP := g9.out; have eQ := g0.out; have eR := k0.out; have eS := h9.out; have eT := k1.out; have eU := i0.out; obtain ⟨z7, z8, z9⟩ := cc3_ b5.out; obtain ⟨A1, A2, A6⟩ := cf3_ b5.out; have p138 : 0 ≤ (j9 : Int) := of_decide_eq_true (by assumption); have q138 : j9 < (h6.length : Int) := of_decide_eq_true (by assumption); obtain ⟨ad138, S7, A7, A8, A9, B0⟩ := at_T36 (Kd.V_reads' b2.out).2.2 j9 p138 q138
        cases S7
        replace p138 := eq_true p138; replace q138 := eq_true q138
        go_wp2
        go_roundg k2
        case measure => have := HJ5.out; have := HK2.out; omega
        case rel => exact ⟨(wrap64 (j9 + 1)), (by first | rfl | (simp; done) | (simp [*]; done)), H', ⟨by have := HJ5.out; have := HK2.out; omega⟩, ⟨by first | exact a1.out | exact upQ a1.out⟩, ⟨by first | exact a4.out | exact upQ a4.out⟩, ⟨by first | exact a5.out | exact upQ a5.out⟩, ⟨by first | exact b2.out | exact upV b2.out⟩, ⟨by exact upB a3.out⟩, ⟨by exact upB a2.out⟩, ⟨by exact upB a9.out⟩, ⟨by exact upB b0.out⟩, ⟨by exact upB b5.out⟩, ⟨by repeat (with_reducible first | exact HB.out | apply yaf | apply yad | apply yag | refine yai ?_ (Aside0.out ‹_›))⟩⟩
       rw [if_neg c70] at H
       have E2 := beq_eq_false_iff_ne.mpr c70; have E3 := bne_iff_ne.mpr c70
       rw [hrt] at H
       exact absurd H (by simp)
      rw [if_neg c69] at H
      exact absurd H (by simp)
     rw [if_neg c68] at H
     have E1 : decide (j9 < (h6.length : Int)) = false := decide_eq_false c68; clear c68; have H' := yaa H; clear H; have eV := h8.out; have eW := g1.out; have eX := g9.out; have eY := g0.out; have eZ := k0.out; have fA := h9.out; have fB := k1.out; have fC := i0.out; obtain ⟨B1, B2, B3⟩ := cc3_ b5.out; obtain ⟨B4, B5, B6⟩ := cf3_ b5.out; have fD := d6.out; have fE := e5.out; have fF := f8.out; have fG := g5.out; have fH := e6.out; have fI := g7.out; obtain ⟨B7, B8, B9⟩ := cc3_ a3.out; obtain ⟨C0, C1, C2⟩ := cf3_ a3.out
     go_wp2_with (first | ((with_reducible refine gd_ 11 rfl ?_); refine bx_ 11 rfl #[.int .i64 0, .int .i64 0, .slice none 0 0] 25 ?_; intro b9 hg w85 hbox hb; replace a1 := yaa (yah (upQ a1.out) hb); replace a4 := yaa (yah (upQ a4.out) hb); replace a5 := yaa (yah (upQ a5.out) hb); replace b2 := yaa (Kd.V_below (Kd.V_elderB (upV b2.out) b9 (Nat.le_of_eq hg.symm)) hb); have b4 := yaa (hbox); have M4 := yaa ((by rw [hg]; exact (yav (by repeat (with_reducible first | exact HB.out | apply yaf | apply yad | apply yag | refine yai ?_ (Aside0.out ‹_›)))) : w.heap.size ≤ b9)); replace HB := yaa (yau (by repeat (with_reducible first | exact HB.out | apply yaf | apply yad | apply yag | refine yai ?_ (Aside0.out ‹_›))) hb); have fJ := M4; have i1 := yaa ((by rw [hg]; exact Nat.ne_of_lt (blk_lt (upB a3.out)) : d2 ≠ b9)); replace a3 := yaa (yae (upB a3.out) hb); have l9 := yaa i1.out.symm; have g2 := yaa ((by rw [hg]; exact Nat.ne_of_lt (blk_lt (upB a2.out)) : b6 ≠ b9)); replace a2 := yaa (yae (upB a2.out) hb); have j5 := yaa g2.out.symm; have i2 := yaa ((by rw [hg]; exact Nat.ne_of_lt (blk_lt (upB a9.out)) : b8 ≠ b9)); replace a9 := yaa (yae (upB a9.out) hb); have m0 := yaa i2.out.symm; have i3 := yaa ((by rw [hg]; exact Nat.ne_of_lt (blk_lt (upB b0.out)) : b3 ≠ b9)); replace b0 := yaa (yae (upB b0.out) hb); have m1 := yaa i3.out.symm; have h0 := yaa ((by rw [hg]; exact Nat.ne_of_lt (blk_lt (upB b5.out)) : d4 ≠ b9)); replace b5 := yaa (yae (upB b5.out) hb); have k5 := yaa h0.out.symm; clear hb hbox hg; have fK := l9.out; have fL := i1.out; have fM := j5.out; have fN := g2.out; have fO := m0.out; have fP := i2.out; have fQ := m1.out; have fR := i3.out; have fS := k5.out; have fT := h0.out; obtain ⟨C3, C4, C5⟩ := cc3_ b4.out; obtain ⟨C6, C7⟩ := cf2_ b4.out; have C8 := blk_frozen b4.out 2))
     (try simp only [Act.put, List.setIfInBounds_toArray, List.set_cons_zero, List.set_cons_succ])
     go_loopg [12] k2 (fun kq v12 w' => ∃ (a8 : Int) (b7 : List (S36)) (u140002 : Value), v12 = .int .i64 a8 ∧ yap (laws_FnOpCover.l1 kq a8 e2 e8 a6 e3 e9 f4 f5 f7 l6 l7 h6 e2 e8 b7 = some r) ∧ yap (kq ≤ k2) ∧ yap (Kd.Q k36 36 w' w.heap.size (fun k_ => some k_ ≠ ((.slice e0 d1.length d9) : Value).ownBlock ∧ some k_ ≠ ((.slice d8 d0.length d7) : Value).ownBlock ∧ some k_ ≠ (u140002 : Value).ownBlock) (.slice f6 a6.length e1) a6) ∧ yap (Kd.Q k36 36 w' w.heap.size (fun k_ => some k_ ≠ ((.slice f6 a6.length e1) : Value).ownBlock ∧ some k_ ≠ ((.slice d8 d0.length d7) : Value).ownBlock ∧ some k_ ≠ (u140002 : Value).ownBlock) (.slice e0 d1.length d9) d1) ∧ yap (Kd.Q k36 36 w' w.heap.size (fun k_ => some k_ ≠ ((.slice f6 a6.length e1) : Value).ownBlock ∧ some k_ ≠ ((.slice e0 d1.length d9) : Value).ownBlock ∧ some k_ ≠ (u140002 : Value).ownBlock) (.slice d8 d0.length d7) d0) ∧ yap (Kd.V k36 36 w' w.heap.size (fun k_ => some k_ ≠ ((.slice e0 d1.length d9) : Value).ownBlock ∧ some k_ ≠ ((.slice d8 d0.length d7) : Value).ownBlock ∧ some k_ ≠ (u140002 : Value).ownBlock ∧ k_ ≠ d2 ∧ k_ ≠ b6 ∧ k_ ≠ b8 ∧ k_ ≠ b3 ∧ k_ ≠ d4 ∧ k_ ≠ b9) (.slice u4 h6.length u5) h6) ∧ yap (Kd.Q k36 36 w' w.heap.size (fun k_ => some k_ ≠ ((.slice f6 a6.length e1) : Value).ownBlock ∧ some k_ ≠ ((.slice e0 d1.length d9) : Value).ownBlock ∧ some k_ ≠ ((.slice d8 d0.length d7) : Value).ownBlock) u140002 b7) ∧ yap (w'.heap[d2]? = some (.cells #[.int .i64 e2, .int .i64 e8, (.slice f6 a6.length e1)] 25 (0, 0))) ∧ yap (w'.heap[b6]? = some (.cells #[.int .i64 e3, .int .i64 e9, .int .i64 f4, .int .i64 f5, .int .i64 f7] 27 (0, 0))) ∧ yap (w'.heap[b8]? = some (.cells #[.int .i64 j2, .int .i64 j8, (.slice e0 d1.length d9)] 25 (0, 0))) ∧ yap (w'.heap[b3]? = some (.cells #[.int .i64 h2, .int .i64 h5, (.slice d8 d0.length d7)] 25 (0, 0))) ∧ yap (w'.heap[d4]? = some (.cells #[.int .i64 l6, .int .i64 l7, (.slice u4 h6.length u5)] 25 (0, 0))) ∧ yap (w'.heap[b9]? = some (.cells #[.int .i64 e2, .int .i64 e8, u140002] 25 (0, 0))) ∧ yap (Below w.heap.size w w'))
     case atStart => exact ⟨(0), (([] : List (S36))), (.slice none 0 0), (by first | rfl | (simp; done) | (simp [*]; done)), H', ⟨Nat.le_refl _⟩, ⟨by (with_reducible repeat (first | apply yak | apply yal | apply yan)); exact yaj (yac (p := ⟨b9, 2, none⟩) (yac (p := ⟨b9, 1, none⟩) (yac (p := ⟨b9, 0, none⟩) (yab a1.out b4.out (by decide)) (fun _ hk => hk.2) (.int .i64 e2)) (fun _ hk => hk.2) (.int .i64 e8)) (fun _ hk => hk.2) (.slice none 0 0)) (fun _ hk => ⟨hk.1.1, ⟨hk.1.2, (by simp [Value.ownBlock])⟩⟩)⟩, ⟨by (with_reducible repeat (first | apply yak | apply yal | apply yan)); exact yaj (yac (p := ⟨b9, 2, none⟩) (yac (p := ⟨b9, 1, none⟩) (yac (p := ⟨b9, 0, none⟩) (yab a4.out b4.out (by decide)) (fun _ hk => hk.2) (.int .i64 e2)) (fun _ hk => hk.2) (.int .i64 e8)) (fun _ hk => hk.2) (.slice none 0 0)) (fun _ hk => ⟨hk.1.1, ⟨hk.1.2, (by simp [Value.ownBlock])⟩⟩)⟩, ⟨by (with_reducible repeat (first | apply yak | apply yal | apply yan)); exact yaj (yac (p := ⟨b9, 2, none⟩) (yac (p := ⟨b9, 1, none⟩) (yac (p := ⟨b9, 0, none⟩) (yab a5.out b4.out (by decide)) (fun _ hk => hk.2) (.int .i64 e2)) (fun _ hk => hk.2) (.int .i64 e8)) (fun _ hk => hk.2) (.slice none 0 0)) (fun _ hk => ⟨hk.1.1, ⟨hk.1.2, (by simp [Value.ownBlock])⟩⟩)⟩, ⟨by (with_reducible repeat (first | apply Kd.V_alloc | apply Kd.V_drewN | apply Kd.V_drew)); exact Kd.V_mono (Kd.V_far (p := ⟨b9, 2, none⟩) (Kd.V_far (p := ⟨b9, 1, none⟩) (Kd.V_far (p := ⟨b9, 0, none⟩) (Kd.V_mono b2.out (fun k_ hk => (⟨hk, hk.2⟩ : _ ∧ k_ ≠ b9))) (fun _ hk => hk.2) (.int .i64 e2)) (fun _ hk => hk.2) (.int .i64 e8)) (fun _ hk => hk.2) (.slice none 0 0)) (fun _ hk => ⟨hk.1.1.1, ⟨hk.1.1.2.1, ⟨(by simp [Value.ownBlock]), ⟨hk.1.1.2.2.1, ⟨hk.1.1.2.2.2.1, ⟨hk.1.1.2.2.2.2.1, ⟨hk.1.1.2.2.2.2.2.1, ⟨hk.1.1.2.2.2.2.2.2, hk.1.2⟩⟩⟩⟩⟩⟩⟩⟩)⟩, ⟨Kd.Q_of_R (by first | exact Kd.R_nil _ _ _ _ _ | exact Kd.N_nil _ _ _ _ _ | exact Kd.V_nil _ _ _ _ _ | exact Kd.Q_nil _ _ _ _ _ | exact Kd.S_nil _ _ _ _ _)⟩, ⟨by repeat (with_reducible first | exact a3.out | refine oneB ?_ | refine yao ?_ i1.out _)⟩, ⟨by repeat (with_reducible first | exact a2.out | refine oneB ?_ | refine yao ?_ g2.out _)⟩, ⟨by repeat (with_reducible first | exact a9.out | refine oneB ?_ | refine yao ?_ i2.out _)⟩, ⟨by repeat (with_reducible first | exact b0.out | refine oneB ?_ | refine yao ?_ i3.out _)⟩, ⟨by repeat (with_reducible first | exact b5.out | refine oneB ?_ | refine yao ?_ h0.out _)⟩, ⟨by (repeat refine oneB ?_); refine yas (cs := #[.int .i64 e2, .int .i64 e8, .slice none 0 0]) ?_ 2 _ rfl; refine yas (cs := #[.int .i64 e2, .int .i64 0, .slice none 0 0]) ?_ 1 _ rfl; refine yas (cs := #[.int .i64 0, .int .i64 0, .slice none 0 0]) ?_ 0 _ rfl; exact upB b4.out⟩, ⟨by repeat (with_reducible first | exact HB.out | apply yaf | apply yad | apply yag | refine yai ?_ (Aside0.out ‹_›))⟩⟩
     case round =>
      clear H'; (try clear c1); (try clear p1); (try clear q1); (try clear hx1); (try clear c2); (try clear D7); (try clear D8); (try clear p2); (try clear c3); (try clear c4); (try clear c5); (try clear c6); (try clear p6); (try clear c7); (try clear c8); (try clear c9); (try clear c10); (try clear c11); (try clear c12); (try clear c13); (try clear p13); (try clear q13); (try clear hx13); (try clear c15); (try clear c16); (try clear c17); (try clear c24); (try clear c25); (try clear c26); (try clear c30); (try clear c31); (try clear c32); (try clear c33); (try clear c35); (try clear c36); (try clear c39); (try clear c40); (try clear c41); (try clear c43); (try clear c44); (try clear c47); (try clear c48); (try clear c50); (try clear c51); (try clear c52); (try clear c54); (try clear c55); (try clear c62); (try clear c63); (try clear c64); (try clear p64); (try clear c65); (try clear c68); (try clear E1); (try clear c69); (try clear c69b0); (try clear c70); (try clear E2); (try clear E3); (try clear c71); (try clear c72); (try clear c73); (try clear c74); (try clear c76); (try clear c77); (try clear c78); (try clear c79); (try clear c81); (try clear c82); (try clear c83); (try clear c86); (try clear c87); (try clear c88); (try clear c89); (try clear c90); (try clear n2); (try clear n3); (try clear n4); (try clear n8); (try clear n9); (try clear o0); (try clear o1); (try clear o2); (try clear o8); (try clear o9); (try clear p0); (try clear p7); (try clear p8); (try clear p9); (try clear q4); (try clear q5); (try clear q6); (try clear q7); (try clear q8); (try clear r4); (try clear r5); (try clear r6); (try clear s0); (try clear s1); (try clear s2); (try clear s6); (try clear s7); (try clear s8); (try clear t2); (try clear t3); (try clear t4); (try clear t8); (try clear t9); (try clear u0); (try clear v3); (try clear v4); (try clear v5); (try clear v9); (try clear w1); (try clear w2); (try clear w3); (try clear w4); (try clear x3); (try clear x4); (try clear x5); (try clear z7); (try clear z8); (try clear z9); (try clear B1); (try clear B2); (try clear B3); (try clear B7); (try clear B8); (try clear B9); (try clear C3); (try clear C4); (try clear C5); (try clear n5); (try clear n6); (try clear n7); (try clear o3); (try clear o4); (try clear o5); (try clear o6); (try clear o7); (try clear p3); (try clear p4); (try clear p5); (try clear q0); (try clear q2); (try clear q3); (try clear q9); (try clear r0); (try clear r1); (try clear r2); (try clear r3); (try clear r7); (try clear r8); (try clear r9); (try clear s3); (try clear s4); (try clear s5); (try clear s9); (try clear t0); (try clear t1); (try clear t5); (try clear t6); (try clear t7); (try clear u1); (try clear u2); (try clear u3); (try clear v6); (try clear v7); (try clear v8); (try clear w5); (try clear w6); (try clear x0); (try clear x1); (try clear x2); (try clear x7); (try clear x8); (try clear x9); (try clear A1); (try clear A2); (try clear A6); (try clear B4); (try clear B5); (try clear B6); (try clear C0); (try clear C1); (try clear C2); (try clear C6); (try clear C7); (try clear C8); (try clear A7); (try clear A8); (try clear A9); (try clear B0); (try clear p138); (try clear p2); (try clear q138); obtain ⟨a8, b7, u140002, rfl, HA, HK3, a1, a4, a5, b2, a7, a3, a2, a9, b0, b5, b4, HB⟩ := hrel
      cases gk with
      | zero => exact absurd HA.out (by simp [laws_FnOpCover.l1])
      | succ k3 =>
       have H := HA.out; clear HA
       simp only [laws_FnOpCover.l1] at H
       by_cases c92 : a8 < (a6.length : Int)
       ·
        rw [if_pos c92] at H
        have K4 : decide (a8 < (a6.length : Int)) = true := decide_eq_true c92; clear c92
        by_cases c93 : 0 ≤ a8
        ·
         rw [if_pos c93] at H
         replace c93 := decide_eq_true c93
         by_cases c94 : b7.length < 4398046511104
         ·
          rw [if_pos c94] at H
          have LMc94 := yaa c94; clear c94; obtain ⟨y142, hy142⟩ : ∃ y_ : List (S36), y_ = (b7 ++ [(⟨(yam a6 a8).f0, (yam a6 a8).f1, (yam a6 a8).f2, 0⟩ : S36)]) := ⟨_, rfl⟩
          replace H : (laws_FnOpCover.l1 k3 (wrap64 (a8 + 1)) e2 e8 a6 e3 e9 f4 f5 f7 l6 l7 h6 e2 e8 y142) = some r := by first | (rw [hy142]; with_reducible exact H) | (have H2_ := (Option.bind_some _ _).symm.trans H; rw [hy142]; with_reducible exact H2_) | (have H2_ := (Option.bind_some _ _).symm.trans H; with_reducible exact H2_) | with_reducible exact H | (rw [hy142]; exact H) | exact H
          have Ny142 := yaa hy142; clear hy142; have H' := yaa H; clear H; have fU := d6.out; have fV := e5.out; have fW := f8.out; have fX := g5.out; have fY := e6.out; have fZ := g7.out; have gA := g1.out; have gB := h8.out; have gC := i1.out; have gD := l9.out; obtain ⟨E4, E5, E6⟩ := cc3_ a3.out; obtain ⟨E7, E8, E9⟩ := cf3_ a3.out; have p140 : 0 ≤ (a8 : Int) := of_decide_eq_true (by assumption); have q140 : a8 < (a6.length : Int) := of_decide_eq_true (by assumption); obtain ⟨ad140, S9, J9, K0, K1, K2⟩ := at_T36 (Kd.Q_reads' a1.out).2.2 a8 p140 q140
          cases S9
          replace p140 := eq_true p140; replace q140 := eq_true q140
          go_wp2_with (first | ((with_reducible refine gd_ 13 rfl ?_); refine bx_ 13 rfl #[.int .i64 0, .int .i64 0, .int .i64 0, .int .i64 0] 36 ?_; intro b1 hg w101 hbox hb; replace a1 := yaa (yah (Kd.Q_elderB (upQ a1.out) b1 (Nat.le_of_eq hg.symm)) hb); replace a4 := yaa (yah (Kd.Q_elderB (upQ a4.out) b1 (Nat.le_of_eq hg.symm)) hb); replace a5 := yaa (yah (Kd.Q_elderB (upQ a5.out) b1 (Nat.le_of_eq hg.symm)) hb); replace b2 := yaa (Kd.V_below (Kd.V_elderB (upV b2.out) b1 (Nat.le_of_eq hg.symm)) hb); replace a7 := yaa (yah (Kd.Q_elderB (upQ a7.out) b1 (Nat.le_of_eq hg.symm)) hb); have z1 := yaa (hbox); have M7 := yaa ((by rw [hg]; exact (yav (by repeat (with_reducible first | exact HB.out | apply yaf | apply yad | apply yag | refine yai ?_ (Aside0.out ‹_›)))) : w.heap.size ≤ b1)); replace HB := yaa (yau (by repeat (with_reducible first | exact HB.out | apply yaf | apply yad | apply yag | refine yai ?_ (Aside0.out ‹_›))) hb); have gE := M7; have m2 := yaa ((by rw [hg]; exact Nat.ne_of_lt (blk_lt (upB a3.out)) : d2 ≠ b1)); replace a3 := yaa (yae (upB a3.out) hb); have D0 := yaa m2.out.symm; have m3 := yaa ((by rw [hg]; exact Nat.ne_of_lt (blk_lt (upB a2.out)) : b6 ≠ b1)); replace a2 := yaa (yae (upB a2.out) hb); have D1 := yaa m3.out.symm; have m4 := yaa ((by rw [hg]; exact Nat.ne_of_lt (blk_lt (upB a9.out)) : b8 ≠ b1)); replace a9 := yaa (yae (upB a9.out) hb); have D2 := yaa m4.out.symm; have m5 := yaa ((by rw [hg]; exact Nat.ne_of_lt (blk_lt (upB b0.out)) : b3 ≠ b1)); replace b0 := yaa (yae (upB b0.out) hb); have D3 := yaa m5.out.symm; have m6 := yaa ((by rw [hg]; exact Nat.ne_of_lt (blk_lt (upB b5.out)) : d4 ≠ b1)); replace b5 := yaa (yae (upB b5.out) hb); have D4 := yaa m6.out.symm; have m7 := yaa ((by rw [hg]; exact Nat.ne_of_lt (blk_lt (upB b4.out)) : b9 ≠ b1)); replace b4 := yaa (yae (upB b4.out) hb); have D5 := yaa m7.out.symm; clear hb hbox hg; have T0 := D0.out; have T1 := m2.out; have T2 := D1.out; have T3 := m3.out; have T4 := D2.out; have T5 := m4.out; have T6 := D3.out; have T7 := m5.out; have T8 := D4.out; have T9 := m6.out; have U0 := D5.out; have U1 := m7.out; obtain ⟨F0, F1, F2, F3⟩ := cc4_ z1.out; obtain ⟨F4, F5, F6, F7⟩ := cf4_ z1.out; have U2 := j5.out; have U3 := g2.out; have U4 := m0.out; have U5 := i2.out; have U6 := m1.out; have U7 := i3.out; have U8 := k5.out; have U9 := h0.out; obtain ⟨F8, F9, G0⟩ := cc3_ b4.out; obtain ⟨G1, G2⟩ := cf2_ b4.out; have G3 := blk_frozen b4.out 2) | ((with_reducible refine gd_ 87 rfl ?_); refine Kd.event_run rfl (ld36_ (b := b1) (x0 := (yam a6 a8).f0) (x1 := (yam a6 a8).f1) (x2 := (yam a6 a8).f2) (x3 := 0) rfl (by (repeat refine oneB ?_); refine yas (cs := #[.int .i64 ((yam a6 a8).f0), .int .i64 ((yam a6 a8).f1), .int .i64 ((yam a6 a8).f2), .int .i64 ((yam a6 a8).f3)]) ?_ 3 _ rfl; refine yas (cs := #[.int .i64 ((yam a6 a8).f0), .int .i64 ((yam a6 a8).f1), .int .i64 ((yam a6 a8).f2), .int .i64 0]) ?_ 3 _ rfl; refine yas (cs := #[.int .i64 ((yam a6 a8).f0), .int .i64 ((yam a6 a8).f1), .int .i64 0, .int .i64 0]) ?_ 2 _ rfl; refine yas (cs := #[.int .i64 ((yam a6 a8).f0), .int .i64 0, .int .i64 0, .int .i64 0]) ?_ 1 _ rfl; refine yas (cs := #[.int .i64 0, .int .i64 0, .int .i64 0, .int .i64 0]) ?_ 0 _ rfl; exact upB z1.out)) ?_) | ((with_reducible refine gate_builtin (b := .append) (xs := #[.tmp 86, .tmp 88]) rfl ?_); at_builtin; refine Kd.Q_append k36 (w0 := w) w.heap.size rfl (.tmp 86) (.tmp 88) 23 36 (.agg #[(.int .i64 0), (.int .i64 0), (.int .i64 0), (.int .i64 0)]) 32 rfl Try.underlying23 info36 rfl (by decide) (by omega) u140002 b7 (⟨(yam a6 a8).f0, (yam a6 a8).f1, (yam a6 a8).f2, 0⟩ : S36) [.int .i64 ((yam a6 a8).f0), .int .i64 ((yam a6 a8).f1), .int .i64 ((yam a6 a8).f2), .int .i64 0] (fun k_ => some k_ ≠ (.slice (some ad140) a6.length e1 : Value).ownBlock ∧ some k_ ≠ (.slice e0 d1.length d9 : Value).ownBlock ∧ some k_ ≠ (.slice d8 d0.length d7 : Value).ownBlock ∧ k_ ≠ b1) (fun _ => False) rfl (by first | (go_simp; done) | (go_simp; rfl)) ?aP (fun _ hk => hk.elim) ?aF ?aO ?aB ?aS ?aL ?_; (case aP => exact k36_mkM _ _ _ (⟨(yam a6 a8).f0, (yam a6 a8).f1, (yam a6 a8).f2, 0⟩ : S36)); (case aB => exact (by repeat (with_reducible first | exact HB.out | apply yaf | apply yad | apply yag | refine yai ?_ (Aside0.out ‹_›)))); (case aF => exact (fun k_ hk => ⟨Kd.fresh' (Kd.Q_lt (by (with_reducible repeat (first | apply yak | apply yal | apply yan)); exact (yaj (yac (p := ⟨b1, 3, none⟩) (yac (p := ⟨b1, 3, none⟩) (yac (p := ⟨b1, 2, none⟩) (yac (p := ⟨b1, 1, none⟩) (yac (p := ⟨b1, 0, none⟩) (yaj a1.out (fun k_ hk => (⟨hk, hk.2⟩ : _ ∧ k_ ≠ b1))) (fun _ hk => hk.2) (.int .i64 ((yam a6 a8).f0))) (fun _ hk => hk.2) (.int .i64 ((yam a6 a8).f1))) (fun _ hk => hk.2) (.int .i64 ((yam a6 a8).f2))) (fun _ hk => hk.2) (.int .i64 ((yam a6 a8).f3))) (fun _ hk => hk.2) (.int .i64 0)) (fun _ h_ => h_.1)))) k_ hk, Kd.fresh' (Kd.Q_lt (by (with_reducible repeat (first | apply yak | apply yal | apply yan)); exact (yaj (yac (p := ⟨b1, 3, none⟩) (yac (p := ⟨b1, 3, none⟩) (yac (p := ⟨b1, 2, none⟩) (yac (p := ⟨b1, 1, none⟩) (yac (p := ⟨b1, 0, none⟩) (yaj a4.out (fun k_ hk => (⟨hk, hk.2⟩ : _ ∧ k_ ≠ b1))) (fun _ hk => hk.2) (.int .i64 ((yam a6 a8).f0))) (fun _ hk => hk.2) (.int .i64 ((yam a6 a8).f1))) (fun _ hk => hk.2) (.int .i64 ((yam a6 a8).f2))) (fun _ hk => hk.2) (.int .i64 ((yam a6 a8).f3))) (fun _ hk => hk.2) (.int .i64 0)) (fun _ h_ => h_.1)))) k_ hk, Kd.fresh' (Kd.Q_lt (by (with_reducible repeat (first | apply yak | apply yal | apply yan)); exact (yaj (yac (p := ⟨b1, 3, none⟩) (yac (p := ⟨b1, 3, none⟩) (yac (p := ⟨b1, 2, none⟩) (yac (p := ⟨b1, 1, none⟩) (yac (p := ⟨b1, 0, none⟩) (yaj a5.out (fun k_ hk => (⟨hk, hk.2⟩ : _ ∧ k_ ≠ b1))) (fun _ hk => hk.2) (.int .i64 ((yam a6 a8).f0))) (fun _ hk => hk.2) (.int .i64 ((yam a6 a8).f1))) (fun _ hk => hk.2) (.int .i64 ((yam a6 a8).f2))) (fun _ hk => hk.2) (.int .i64 ((yam a6 a8).f3))) (fun _ hk => hk.2) (.int .i64 0)) (fun _ h_ => h_.1)))) k_ hk, Kd.freshB (g := b1) (o := .cells #[.int .i64 ((yam a6 a8).f0), .int .i64 ((yam a6 a8).f1), .int .i64 ((yam a6 a8).f2), .int .i64 0] 36 (0, 0)) (by (repeat refine oneB ?_); refine yas (cs := #[.int .i64 ((yam a6 a8).f0), .int .i64 ((yam a6 a8).f1), .int .i64 ((yam a6 a8).f2), .int .i64 ((yam a6 a8).f3)]) ?_ 3 _ rfl; refine yas (cs := #[.int .i64 ((yam a6 a8).f0), .int .i64 ((yam a6 a8).f1), .int .i64 ((yam a6 a8).f2), .int .i64 0]) ?_ 3 _ rfl; refine yas (cs := #[.int .i64 ((yam a6 a8).f0), .int .i64 ((yam a6 a8).f1), .int .i64 0, .int .i64 0]) ?_ 2 _ rfl; refine yas (cs := #[.int .i64 ((yam a6 a8).f0), .int .i64 0, .int .i64 0, .int .i64 0]) ?_ 1 _ rfl; refine yas (cs := #[.int .i64 0, .int .i64 0, .int .i64 0, .int .i64 0]) ?_ 0 _ rfl; exact upB z1.out) k_ hk⟩)); (case aO => exact (by (with_reducible repeat (first | apply yak | apply yal | apply yan)); exact yaj (yac (p := ⟨b1, 3, none⟩) (yac (p := ⟨b1, 3, none⟩) (yac (p := ⟨b1, 2, none⟩) (yac (p := ⟨b1, 1, none⟩) (yac (p := ⟨b1, 0, none⟩) (yaj a7.out (fun k_ hk => (⟨hk, hk.2⟩ : _ ∧ k_ ≠ b1))) (fun _ hk => hk.2) (.int .i64 ((yam a6 a8).f0))) (fun _ hk => hk.2) (.int .i64 ((yam a6 a8).f1))) (fun _ hk => hk.2) (.int .i64 ((yam a6 a8).f2))) (fun _ hk => hk.2) (.int .i64 ((yam a6 a8).f3))) (fun _ hk => hk.2) (.int .i64 0)) (fun _ hk => by grind))); (case aS => exact (yav (by repeat (with_reducible first | exact HB.out | apply yaf | apply yad | apply yag | refine yai ?_ (Aside0.out ‹_›))))); (case aL => have := LMc94.out; omega); intro gP w114 ho hb hg hat; rw [← Ny142.out] at ho; replace a1 := yaa (Kd.Q_after (ok := (fun k_ => some k_ ≠ (.slice e0 d1.length d9 : Value).ownBlock ∧ some k_ ≠ (.slice d8 d0.length d7 : Value).ownBlock ∧ k_ ≠ b1)) (by (with_reducible repeat (first | apply yak | apply yal | apply yan)); exact yaj (yac (p := ⟨b1, 3, none⟩) (yac (p := ⟨b1, 3, none⟩) (yac (p := ⟨b1, 2, none⟩) (yac (p := ⟨b1, 1, none⟩) (yac (p := ⟨b1, 0, none⟩) (yaj a1.out (fun k_ hk => (⟨hk, hk.2⟩ : _ ∧ k_ ≠ b1))) (fun _ hk => hk.2) (.int .i64 ((yam a6 a8).f0))) (fun _ hk => hk.2) (.int .i64 ((yam a6 a8).f1))) (fun _ hk => hk.2) (.int .i64 ((yam a6 a8).f2))) (fun _ hk => hk.2) (.int .i64 ((yam a6 a8).f3))) (fun _ hk => hk.2) (.int .i64 0)) (fun _ hk => ⟨⟨hk.1.1.1, ⟨hk.1.1.2.1, hk.1.2⟩⟩, hk.1.1.2.2⟩)) hg hat); replace a4 := yaa (Kd.Q_after (ok := (fun k_ => some k_ ≠ (.slice (some ad140) a6.length e1 : Value).ownBlock ∧ some k_ ≠ (.slice d8 d0.length d7 : Value).ownBlock ∧ k_ ≠ b1)) (by (with_reducible repeat (first | apply yak | apply yal | apply yan)); exact yaj (yac (p := ⟨b1, 3, none⟩) (yac (p := ⟨b1, 3, none⟩) (yac (p := ⟨b1, 2, none⟩) (yac (p := ⟨b1, 1, none⟩) (yac (p := ⟨b1, 0, none⟩) (yaj a4.out (fun k_ hk => (⟨hk, hk.2⟩ : _ ∧ k_ ≠ b1))) (fun _ hk => hk.2) (.int .i64 ((yam a6 a8).f0))) (fun _ hk => hk.2) (.int .i64 ((yam a6 a8).f1))) (fun _ hk => hk.2) (.int .i64 ((yam a6 a8).f2))) (fun _ hk => hk.2) (.int .i64 ((yam a6 a8).f3))) (fun _ hk => hk.2) (.int .i64 0)) (fun _ hk => ⟨⟨hk.1.1.1, ⟨hk.1.1.2.1, hk.1.2⟩⟩, hk.1.1.2.2⟩)) hg hat); replace a5 := yaa (Kd.Q_after (ok := (fun k_ => some k_ ≠ (.slice (some ad140) a6.length e1 : Value).ownBlock ∧ some k_ ≠ (.slice e0 d1.length d9 : Value).ownBlock ∧ k_ ≠ b1)) (by (with_reducible repeat (first | apply yak | apply yal | apply yan)); exact yaj (yac (p := ⟨b1, 3, none⟩) (yac (p := ⟨b1, 3, none⟩) (yac (p := ⟨b1, 2, none⟩) (yac (p := ⟨b1, 1, none⟩) (yac (p := ⟨b1, 0, none⟩) (yaj a5.out (fun k_ hk => (⟨hk, hk.2⟩ : _ ∧ k_ ≠ b1))) (fun _ hk => hk.2) (.int .i64 ((yam a6 a8).f0))) (fun _ hk => hk.2) (.int .i64 ((yam a6 a8).f1))) (fun _ hk => hk.2) (.int .i64 ((yam a6 a8).f2))) (fun _ hk => hk.2) (.int .i64 ((yam a6 a8).f3))) (fun _ hk => hk.2) (.int .i64 0)) (fun _ hk => ⟨⟨hk.1.1.1, ⟨hk.1.1.2.1, hk.1.2⟩⟩, hk.1.1.2.2⟩)) hg hat); replace b2 := yaa (Kd.V_afterv (ok := (fun k_ => some k_ ≠ (.slice e0 d1.length d9 : Value).ownBlock ∧ some k_ ≠ (.slice d8 d0.length d7 : Value).ownBlock ∧ k_ ≠ d2 ∧ k_ ≠ b6 ∧ k_ ≠ b8 ∧ k_ ≠ b3 ∧ k_ ≠ d4 ∧ k_ ≠ b9 ∧ k_ ≠ b1)) (by (with_reducible repeat (first | apply Kd.V_alloc | apply Kd.V_drewN | apply Kd.V_drew)); exact Kd.V_mono (Kd.V_far (p := ⟨b1, 3, none⟩) (Kd.V_far (p := ⟨b1, 3, none⟩) (Kd.V_far (p := ⟨b1, 2, none⟩) (Kd.V_far (p := ⟨b1, 1, none⟩) (Kd.V_far (p := ⟨b1, 0, none⟩) (Kd.V_mono b2.out (fun k_ hk => (⟨hk, hk.2⟩ : _ ∧ k_ ≠ b1))) (fun _ hk => hk.2) (.int .i64 ((yam a6 a8).f0))) (fun _ hk => hk.2) (.int .i64 ((yam a6 a8).f1))) (fun _ hk => hk.2) (.int .i64 ((yam a6 a8).f2))) (fun _ hk => hk.2) (.int .i64 ((yam a6 a8).f3))) (fun _ hk => hk.2) (.int .i64 0)) (fun _ hk => ⟨⟨hk.1.1.1, ⟨hk.1.1.2.1, ⟨hk.1.1.2.2.2.1, ⟨hk.1.1.2.2.2.2.1, ⟨hk.1.1.2.2.2.2.2.1, ⟨hk.1.1.2.2.2.2.2.2.1, ⟨hk.1.1.2.2.2.2.2.2.2.1, ⟨hk.1.1.2.2.2.2.2.2.2.2, hk.1.2⟩⟩⟩⟩⟩⟩⟩⟩, hk.1.1.2.2.1⟩)) hg hat); replace a3 := yaa (blk_grown (g := d2) (o := .cells #[.int .i64 e2, .int .i64 e8, .slice (some ad140) a6.length e1] 25 (0, 0)) (by repeat (with_reducible first | exact a3.out | refine oneB ?_ | refine yao ?_ m2.out _)) hg (Kd.Q_ne a7.out a3.out (by decide))); replace a2 := yaa (blk_grown (g := b6) (o := .cells #[.int .i64 e3, .int .i64 e9, .int .i64 f4, .int .i64 f5, .int .i64 f7] 27 (0, 0)) (by repeat (with_reducible first | exact a2.out | refine oneB ?_ | refine yao ?_ m3.out _)) hg (Kd.Q_ne a7.out a2.out (by decide))); replace a9 := yaa (blk_grown (g := b8) (o := .cells #[.int .i64 j2, .int .i64 j8, .slice e0 d1.length d9] 25 (0, 0)) (by repeat (with_reducible first | exact a9.out | refine oneB ?_ | refine yao ?_ m4.out _)) hg (Kd.Q_ne a7.out a9.out (by decide))); replace b0 := yaa (blk_grown (g := b3) (o := .cells #[.int .i64 h2, .int .i64 h5, .slice d8 d0.length d7] 25 (0, 0)) (by repeat (with_reducible first | exact b0.out | refine oneB ?_ | refine yao ?_ m5.out _)) hg (Kd.Q_ne a7.out b0.out (by decide))); replace b5 := yaa (blk_grown (g := d4) (o := .cells #[.int .i64 l6, .int .i64 l7, .slice u4 h6.length u5] 25 (0, 0)) (by repeat (with_reducible first | exact b5.out | refine oneB ?_ | refine yao ?_ m6.out _)) hg (Kd.Q_ne a7.out b5.out (by decide))); replace b4 := yaa (blk_grown (g := b9) (o := .cells #[.int .i64 e2, .int .i64 e8, u140002] 25 (0, 0)) (by repeat (with_reducible first | exact b4.out | refine oneB ?_ | refine yao ?_ m7.out _)) hg (Kd.Q_ne a7.out b4.out (by decide))); replace z1 := yaa (blk_grown (g := b1) (o := .cells #[.int .i64 ((yam a6 a8).f0), .int .i64 ((yam a6 a8).f1), .int .i64 ((yam a6 a8).f2), .int .i64 0] 36 (0, 0)) (by (repeat refine oneB ?_); refine yas (cs := #[.int .i64 ((yam a6 a8).f0), .int .i64 ((yam a6 a8).f1), .int .i64 ((yam a6 a8).f2), .int .i64 ((yam a6 a8).f3)]) ?_ 3 _ rfl; refine yas (cs := #[.int .i64 ((yam a6 a8).f0), .int .i64 ((yam a6 a8).f1), .int .i64 ((yam a6 a8).f2), .int .i64 0]) ?_ 3 _ rfl; refine yas (cs := #[.int .i64 ((yam a6 a8).f0), .int .i64 ((yam a6 a8).f1), .int .i64 0, .int .i64 0]) ?_ 2 _ rfl; refine yas (cs := #[.int .i64 ((yam a6 a8).f0), .int .i64 0, .int .i64 0, .int .i64 0]) ?_ 1 _ rfl; refine yas (cs := #[.int .i64 0, .int .i64 0, .int .i64 0, .int .i64 0]) ?_ 0 _ rfl; exact upB z1.out) hg (Kd.Q_away a7.out (fun _ hk => hk.2))); replace HB := yaa (hb); have K5 := yaa (ho); clear a7; clear ho hb hg hat; obtain ⟨v0, v1, M8, _⟩ := Kd.Q_slice K5.out; subst M8; obtain ⟨G4, G5, G6⟩ := cc3_ b4.out; obtain ⟨G7, G8⟩ := cf2_ b4.out; have G9 := blk_frozen b4.out 2))
          go_roundg k3
          case measure => have := HJ5.out; have := HK2.out; have := HK3.out; omega
          case rel => exact ⟨(wrap64 (a8 + 1)), (y142), (.slice v0 y142.length v1), (by first | rfl | (simp; done) | (simp [*]; done)), H', ⟨by have := HJ5.out; have := HK2.out; have := HK3.out; omega⟩, ⟨by (with_reducible repeat (first | apply yak | apply yal | apply yan)); exact yaj (yac (p := ⟨b9, 2, none⟩) (yab a1.out b4.out (by decide)) (fun _ hk => hk.2) (.slice v0 y142.length v1)) (fun _ hk => by grind)⟩, ⟨by (with_reducible repeat (first | apply yak | apply yal | apply yan)); exact yaj (yac (p := ⟨b9, 2, none⟩) (yab a4.out b4.out (by decide)) (fun _ hk => hk.2) (.slice v0 y142.length v1)) (fun _ hk => by grind)⟩, ⟨by (with_reducible repeat (first | apply yak | apply yal | apply yan)); exact yaj (yac (p := ⟨b9, 2, none⟩) (yab a5.out b4.out (by decide)) (fun _ hk => hk.2) (.slice v0 y142.length v1)) (fun _ hk => by grind)⟩, ⟨by (with_reducible repeat (first | apply Kd.V_alloc | apply Kd.V_drewN | apply Kd.V_drew)); exact Kd.V_mono (Kd.V_far (p := ⟨b9, 2, none⟩) (Kd.V_mono b2.out (fun k_ hk => (⟨hk, hk.1.2.2.2.2.2.2.2.1⟩ : _ ∧ k_ ≠ b9))) (fun _ hk => hk.2) (.slice v0 y142.length v1)) (fun _ hk => by grind)⟩, ⟨by (with_reducible repeat (first | apply yak | apply yal | apply yan)); exact yaj (yac (p := ⟨b9, 2, none⟩) (yab K5.out b4.out (by decide)) (fun _ hk => hk.2) (.slice v0 y142.length v1)) (fun _ hk => by grind)⟩, ⟨by repeat (with_reducible first | exact a3.out | refine oneB ?_ | refine yao ?_ i1.out _)⟩, ⟨by repeat (with_reducible first | exact a2.out | refine oneB ?_ | refine yao ?_ g2.out _)⟩, ⟨by repeat (with_reducible first | exact a9.out | refine oneB ?_ | refine yao ?_ i2.out _)⟩, ⟨by repeat (with_reducible first | exact b0.out | refine oneB ?_ | refine yao ?_ i3.out _)⟩, ⟨by repeat (with_reducible first | exact b5.out | refine oneB ?_ | refine yao ?_ h0.out _)⟩, ⟨by (repeat refine oneB ?_); refine yas (cs := #[.int .i64 e2, .int .i64 e8, u140002]) ?_ 2 _ rfl; exact upB b4.out⟩, ⟨by repeat (with_reducible first | exact HB.out | apply yaf | apply yad | apply yag | refine yai ?_ (Aside0.out ‹_›))⟩⟩
         rw [if_neg c94] at H
         exact absurd H (by simp)
        rw [if_neg c93] at H
        exact absurd H (by simp)
       rw [if_neg c92] at H
       have K4 : decide (a8 < (a6.length : Int)) = false := decide_eq_false c92; clear c92; obtain ⟨y145, hy145⟩ : ∃ y_ : List (S27), y_ = (([(⟨e3, e9, f4, f5, f7⟩ : S27)] : List (S27))) := ⟨_, rfl⟩
       conv at H => enter [1, 1, 5]; rw [← hy145]
       have Ny145 := yaa hy145; clear hy145; obtain ⟨⟨u6, u7, l5⟩, V0, H⟩ := bindA H; (try dsimp only at H); have H' := yaa H; clear H; have V1 := d6.out; have V2 := e5.out; have V3 := f8.out; have V4 := g5.out; have V5 := e6.out; have V6 := g7.out; have V7 := g1.out; have V8 := h8.out; have V9 := i1.out; have W0 := l9.out; obtain ⟨H0, H1, H2⟩ := cc3_ a3.out; obtain ⟨H3, H4, H5⟩ := cf3_ a3.out; have W1 := j5.out; have W2 := g2.out; have W3 := m0.out; have W4 := i2.out; have W5 := m1.out; have W6 := i3.out; have W7 := k5.out; have W8 := h0.out; obtain ⟨H6, H7, H8⟩ := cc3_ b4.out; obtain ⟨H9, I0, I1⟩ := cf3_ b4.out; have W9 := f9.out; have X0 := g6.out; have X1 := e7.out; have X2 := g8.out; have X3 := g0.out; have X4 := g9.out; obtain ⟨I2, I3, I4, I5, I6⟩ := cc5_ a2.out; obtain ⟨I7, I8, I9, J0, J1⟩ := cf5_ a2.out
       go_wp2_with (first | ((with_reducible refine gd_ 93 rfl ?_); refine Kd.R_lit k27 _ 27 ?hg (N := 93) ?hd (xs := ([(⟨e3, e9, f4, f5, f7⟩ : S27)] : List (S27))) (inner := [.int .i64 e3, .int .i64 e9, .int .i64 f4, .int .i64 f5, .int .i64 f7]) (ok := fun _ => True) (okp := fun _ => True) ?hr ?hp (fun _ hk => hk) trivial (Below.refl _ _) (Nat.le_refl _) (by simp) ?_; (case hd => rfl); (case hg => first | rfl | (simp [Region.wanted, yielded, *]; done)); (case hr => first | (go_simp; done) | (go_simp; rfl)); (case hp => exact (Reps.c5 (show Kd.M k27 _ _ _ (⟨e3, e9, f4, f5, f7⟩ : S27) [.int .i64 e3, .int .i64 e9, .int .i64 f4, .int .i64 f5, .int .i64 f7] from (k27_mkM _ _ _ (⟨e3, e9, f4, f5, f7⟩ : S27) )) (Reps.none _ _))); intro gQ w133 v2 hb hg_ hnew_; clear hg_ hnew_; (first | rw [← Ny145.out] at v2 | (simp only [Int.reduceToNat] at v2; rw [← Ny145.out] at v2)); replace a1 := yaa (yah (upQ a1.out) hb); replace a4 := yaa (yah (upQ a4.out) hb); replace a5 := yaa (yah (upQ a5.out) hb); replace b2 := yaa (Kd.V_elder' (upV b2.out) (Kd.R_base v2) hb); replace a7 := yaa (yah (upQ a7.out) hb); have g3 := yaa (Kd.R_lower (Kd.R_newB v2 (upB a2.out)) (yav (by repeat (with_reducible first | exact HB.out | apply yaf | apply yad | apply yag | refine yai ?_ (Aside0.out ‹_›))))); replace a3 := yaa (yae (upB a3.out) hb); replace a2 := yaa (yae (upB a2.out) hb); replace a9 := yaa (yae (upB a9.out) hb); replace b0 := yaa (yae (upB b0.out) hb); replace b5 := yaa (yae (upB b5.out) hb); replace b4 := yaa (yae (upB b4.out) hb); replace HB := yaa (yau (by repeat (with_reducible first | exact HB.out | apply yaf | apply yad | apply yag | refine yai ?_ (Aside0.out ‹_›))) hb); clear hb v2; obtain ⟨m8, m9, M9, _⟩ := Kd.Q_slice a7.out; subst M9; obtain ⟨K6, K7, N0⟩ := Kd.R_slice g3.out; subst N0) | ((with_reducible refine gc_ 15 rfl ?_); refine gl_ (some 94) rfl Try.func15 #[.agg #[.int .i64 e2, .int .i64 e8, .slice m8 b7.length m9], .slice K6 y145.length K7] ?_; (with_reducible refine (laws_eaDo.calls k3 e2 e8 (fun k_ => some k_ = (.slice m8 b7.length m9 : Value).ownBlock) _ _ b7 _ _ y145 u6 u7 l5 _ ?side1 ?side2 ?side3 V0.out).mono ?_); (case side1 => exact Kd.Q_V (Kd.Q_tight rfl (yab (yab (yab (yab (yab (yab (yaq (a7.out) (yat g3.out) (by decide)) a3.out (by decide)) a2.out (by decide)) a9.out (by decide)) b0.out (by decide)) b5.out (by decide)) b4.out (by decide)))); (case side2 => repeat (first | exact (Kd.R_reads' g3.out).2.2 | (with_reducible refine Kd.C_alloc ?_ _) | (with_reducible refine Kd.C_drewN ?_ _) | (with_reducible refine Kd.C_drew ?_))); (case side3 => exact (Kd.R_reads' g3.out).2.1); rintro e w137 ⟨gR, rfl, ho0, hb⟩; refine ⟨_, rfl, ?_⟩; replace b2 := yaa (Kd.V_below (upV b2.out) hb); have C9 := yaa (Kd.V_lower (Kd.V_mono (ok' := fun k_ => some k_ ≠ (.slice f6 a6.length e1 : Value).ownBlock ∧ some k_ ≠ (.slice e0 d1.length d9 : Value).ownBlock ∧ some k_ ≠ (.slice d8 d0.length d7 : Value).ownBlock ∧ some k_ ≠ (.slice K6 y145.length K7 : Value).ownBlock ∧ k_ ≠ d2 ∧ k_ ≠ b6 ∧ k_ ≠ b8 ∧ k_ ≠ b3 ∧ k_ ≠ d4 ∧ k_ ≠ b9) ho0 (fun k_ hk_ => ⟨Or.elim hk_ (fun hs_ => ((yab (yab (yab (yab (yab (yab (yaq (a7.out) (yat g3.out) (by decide)) a3.out (by decide)) a2.out (by decide)) a9.out (by decide)) b0.out (by decide)) b5.out (by decide)) b4.out (by decide)).1 k_ hs_.symm).1.1.1.1.1.1.1.1) (fun hn_ => (Kd.fresh' (Kd.Q_lt (upQ a1.out)) k_ hn_)), Or.elim hk_ (fun hs_ => ((yab (yab (yab (yab (yab (yab (yaq (a7.out) (yat g3.out) (by decide)) a3.out (by decide)) a2.out (by decide)) a9.out (by decide)) b0.out (by decide)) b5.out (by decide)) b4.out (by decide)).1 k_ hs_.symm).1.1.1.1.1.1.1.2.1) (fun hn_ => (Kd.fresh' (Kd.Q_lt (upQ a4.out)) k_ hn_)), Or.elim hk_ (fun hs_ => ((yab (yab (yab (yab (yab (yab (yaq (a7.out) (yat g3.out) (by decide)) a3.out (by decide)) a2.out (by decide)) a9.out (by decide)) b0.out (by decide)) b5.out (by decide)) b4.out (by decide)).1 k_ hs_.symm).1.1.1.1.1.1.1.2.2) (fun hn_ => (Kd.fresh' (Kd.Q_lt (upQ a5.out)) k_ hn_)), Or.elim hk_ (fun hs_ => ((yab (yab (yab (yab (yab (yab (yaq (a7.out) (yat g3.out) (by decide)) a3.out (by decide)) a2.out (by decide)) a9.out (by decide)) b0.out (by decide)) b5.out (by decide)) b4.out (by decide)).1 k_ hs_.symm).1.1.1.1.1.1.2) (fun hn_ => (Kd.fresh' (Kd.R_lt (upR g3.out)) k_ hn_)), Or.elim hk_ (fun hs_ => ((yab (yab (yab (yab (yab (yab (yaq (a7.out) (yat g3.out) (by decide)) a3.out (by decide)) a2.out (by decide)) a9.out (by decide)) b0.out (by decide)) b5.out (by decide)) b4.out (by decide)).1 k_ hs_.symm).1.1.1.1.1.2) (fun hn_ => (Kd.freshB (upB a3.out) k_ hn_)), Or.elim hk_ (fun hs_ => ((yab (yab (yab (yab (yab (yab (yaq (a7.out) (yat g3.out) (by decide)) a3.out (by decide)) a2.out (by decide)) a9.out (by decide)) b0.out (by decide)) b5.out (by decide)) b4.out (by decide)).1 k_ hs_.symm).1.1.1.1.2) (fun hn_ => (Kd.freshB (upB a2.out) k_ hn_)), Or.elim hk_ (fun hs_ => ((yab (yab (yab (yab (yab (yab (yaq (a7.out) (yat g3.out) (by decide)) a3.out (by decide)) a2.out (by decide)) a9.out (by decide)) b0.out (by decide)) b5.out (by decide)) b4.out (by decide)).1 k_ hs_.symm).1.1.1.2) (fun hn_ => (Kd.freshB (upB a9.out) k_ hn_)), Or.elim hk_ (fun hs_ => ((yab (yab (yab (yab (yab (yab (yaq (a7.out) (yat g3.out) (by decide)) a3.out (by decide)) a2.out (by decide)) a9.out (by decide)) b0.out (by decide)) b5.out (by decide)) b4.out (by decide)).1 k_ hs_.symm).1.1.2) (fun hn_ => (Kd.freshB (upB b0.out) k_ hn_)), Or.elim hk_ (fun hs_ => ((yab (yab (yab (yab (yab (yab (yaq (a7.out) (yat g3.out) (by decide)) a3.out (by decide)) a2.out (by decide)) a9.out (by decide)) b0.out (by decide)) b5.out (by decide)) b4.out (by decide)).1 k_ hs_.symm).1.2) (fun hn_ => (Kd.freshB (upB b5.out) k_ hn_)), Or.elim hk_ (fun hs_ => ((yab (yab (yab (yab (yab (yab (yaq (a7.out) (yat g3.out) (by decide)) a3.out (by decide)) a2.out (by decide)) a9.out (by decide)) b0.out (by decide)) b5.out (by decide)) b4.out (by decide)).1 k_ hs_.symm).2) (fun hn_ => (Kd.freshB (upB b4.out) k_ hn_))⟩)) (yav (by repeat (with_reducible first | exact HB.out | apply yaf | apply yad | apply yag | refine yai ?_ (Aside0.out ‹_›))))); replace a1 := yaa (yah (upQ a1.out) hb); replace a4 := yaa (yah (upQ a4.out) hb); replace a5 := yaa (yah (upQ a5.out) hb); replace a7 := yaa (yah (upQ a7.out) hb); replace g3 := yaa (Kd.R_below (upR g3.out) hb); replace a3 := yaa (yae (upB a3.out) hb); replace a2 := yaa (yae (upB a2.out) hb); replace a9 := yaa (yae (upB a9.out) hb); replace b0 := yaa (yae (upB b0.out) hb); replace b5 := yaa (yae (upB b5.out) hb); replace b4 := yaa (yae (upB b4.out) hb); replace HB := yaa (yau (by repeat (with_reducible first | exact HB.out | apply yaf | apply yad | apply yag | refine yai ?_ (Aside0.out ‹_›))) hb); (try clear hb ho0)) | ((with_reducible refine gd_ 14 rfl ?_); refine bx_ 14 rfl #[.int .i64 0, .int .i64 0, .slice none 0 0] 25 ?_; intro d5 hg w138 hbox hb; replace a1 := yaa (yah (upQ a1.out) hb); replace a4 := yaa (yah (upQ a4.out) hb); replace a5 := yaa (yah (upQ a5.out) hb); replace b2 := yaa (Kd.V_below (Kd.V_elderB (upV b2.out) d5 (Nat.le_of_eq hg.symm)) hb); replace a7 := yaa (yah (upQ a7.out) hb); replace g3 := yaa (Kd.R_below (upR g3.out) hb); replace C9 := yaa (Kd.V_below (Kd.V_elderB (upV C9.out) d5 (Nat.le_of_eq hg.symm)) hb); have h4 := yaa (hbox); have N1 := yaa ((by rw [hg]; exact (yav (by repeat (with_reducible first | exact HB.out | apply yaf | apply yad | apply yag | refine yai ?_ (Aside0.out ‹_›)))) : w.heap.size ≤ d5)); replace HB := yaa (yau (by repeat (with_reducible first | exact HB.out | apply yaf | apply yad | apply yag | refine yai ?_ (Aside0.out ‹_›))) hb); have gF := N1; have i4 := yaa ((by rw [hg]; exact Nat.ne_of_lt (blk_lt (upB a3.out)) : d2 ≠ d5)); replace a3 := yaa (yae (upB a3.out) hb); have k6 := yaa i4.out.symm; have i5 := yaa ((by rw [hg]; exact Nat.ne_of_lt (blk_lt (upB a2.out)) : b6 ≠ d5)); replace a2 := yaa (yae (upB a2.out) hb); have k7 := yaa i5.out.symm; have i6 := yaa ((by rw [hg]; exact Nat.ne_of_lt (blk_lt (upB a9.out)) : b8 ≠ d5)); replace a9 := yaa (yae (upB a9.out) hb); have k8 := yaa i6.out.symm; have i7 := yaa ((by rw [hg]; exact Nat.ne_of_lt (blk_lt (upB b0.out)) : b3 ≠ d5)); replace b0 := yaa (yae (upB b0.out) hb); have k9 := yaa i7.out.symm; have i8 := yaa ((by rw [hg]; exact Nat.ne_of_lt (blk_lt (upB b5.out)) : d4 ≠ d5)); replace b5 := yaa (yae (upB b5.out) hb); have l3 := yaa i8.out.symm; have i9 := yaa ((by rw [hg]; exact Nat.ne_of_lt (blk_lt (upB b4.out)) : b9 ≠ d5)); replace b4 := yaa (yae (upB b4.out) hb); have l4 := yaa i9.out.symm; clear hb hbox hg; have X5 := k6.out; have X6 := i4.out; have X7 := k7.out; have X8 := i5.out; have X9 := k8.out; have Y0 := i6.out; have Y1 := k9.out; have Y2 := i7.out; have Y3 := l3.out; have Y4 := i8.out; have Y5 := l4.out; have Y6 := i9.out; obtain ⟨J2, J3, J4⟩ := cc3_ h4.out; obtain ⟨J5, J6, J7⟩ := cf3_ h4.out; obtain ⟨n0, n1, N2⟩ := Kd.V_slice C9.out; subst N2))
       (try simp only [Act.put, List.setIfInBounds_toArray, List.set_cons_zero, List.set_cons_succ])
       go_loopg [15] k3 (fun kq v15 w' => ∃ (j6 : Int), v15 = .int .i64 j6 ∧ yap (laws_FnOpCover.l2 kq j6 e3 e9 f4 f5 f7 l6 l7 h6 u6 u7 l5 = some r) ∧ yap (kq ≤ k3) ∧ yap (Kd.Q k36 36 w' w.heap.size (fun k_ => some k_ ≠ ((.slice e0 d1.length d9) : Value).ownBlock ∧ some k_ ≠ ((.slice d8 d0.length d7) : Value).ownBlock ∧ some k_ ≠ ((.slice m8 b7.length m9) : Value).ownBlock) (.slice f6 a6.length e1) a6) ∧ yap (Kd.Q k36 36 w' w.heap.size (fun k_ => some k_ ≠ ((.slice f6 a6.length e1) : Value).ownBlock ∧ some k_ ≠ ((.slice d8 d0.length d7) : Value).ownBlock ∧ some k_ ≠ ((.slice m8 b7.length m9) : Value).ownBlock) (.slice e0 d1.length d9) d1) ∧ yap (Kd.Q k36 36 w' w.heap.size (fun k_ => some k_ ≠ ((.slice f6 a6.length e1) : Value).ownBlock ∧ some k_ ≠ ((.slice e0 d1.length d9) : Value).ownBlock ∧ some k_ ≠ ((.slice m8 b7.length m9) : Value).ownBlock) (.slice d8 d0.length d7) d0) ∧ yap (Kd.V k36 36 w' w.heap.size (fun k_ => some k_ ≠ ((.slice e0 d1.length d9) : Value).ownBlock ∧ some k_ ≠ ((.slice d8 d0.length d7) : Value).ownBlock ∧ some k_ ≠ ((.slice m8 b7.length m9) : Value).ownBlock ∧ k_ ≠ d2 ∧ k_ ≠ b6 ∧ k_ ≠ b8 ∧ k_ ≠ b3 ∧ k_ ≠ d4 ∧ k_ ≠ b9 ∧ k_ ≠ d5) (.slice u4 h6.length u5) h6) ∧ yap (Kd.Q k36 36 w' w.heap.size (fun k_ => some k_ ≠ ((.slice f6 a6.length e1) : Value).ownBlock ∧ some k_ ≠ ((.slice e0 d1.length d9) : Value).ownBlock ∧ some k_ ≠ ((.slice d8 d0.length d7) : Value).ownBlock) (.slice m8 b7.length m9) b7) ∧ yap (Kd.V k36 36 w' w.heap.size (fun k_ => some k_ ≠ ((.slice f6 a6.length e1) : Value).ownBlock ∧ some k_ ≠ ((.slice e0 d1.length d9) : Value).ownBlock ∧ some k_ ≠ ((.slice d8 d0.length d7) : Value).ownBlock ∧ k_ ≠ d2 ∧ k_ ≠ b6 ∧ k_ ≠ b8 ∧ k_ ≠ b3 ∧ k_ ≠ d4 ∧ k_ ≠ b9 ∧ k_ ≠ d5) (.slice n0 l5.length n1) l5) ∧ yap (w'.heap[d2]? = some (.cells #[.int .i64 e2, .int .i64 e8, (.slice f6 a6.length e1)] 25 (0, 0))) ∧ yap (w'.heap[b6]? = some (.cells #[.int .i64 e3, .int .i64 e9, .int .i64 f4, .int .i64 f5, .int .i64 f7] 27 (0, 0))) ∧ yap (w'.heap[b8]? = some (.cells #[.int .i64 j2, .int .i64 j8, (.slice e0 d1.length d9)] 25 (0, 0))) ∧ yap (w'.heap[b3]? = some (.cells #[.int .i64 h2, .int .i64 h5, (.slice d8 d0.length d7)] 25 (0, 0))) ∧ yap (w'.heap[d4]? = some (.cells #[.int .i64 l6, .int .i64 l7, (.slice u4 h6.length u5)] 25 (0, 0))) ∧ yap (w'.heap[b9]? = some (.cells #[.int .i64 e2, .int .i64 e8, (.slice m8 b7.length m9)] 25 (0, 0))) ∧ yap (w'.heap[d5]? = some (.cells #[.int .i64 u6, .int .i64 u7, (.slice n0 l5.length n1)] 25 (0, 0))) ∧ yap (Below w.heap.size w w'))
       case atStart => exact ⟨(0), (by first | rfl | (simp; done) | (simp [*]; done)), H', ⟨Nat.le_refl _⟩, ⟨by (with_reducible repeat (first | apply yak | apply yal | apply yan)); exact yaj (yac (p := ⟨d5, 2, none⟩) (yac (p := ⟨d5, 1, none⟩) (yac (p := ⟨d5, 0, none⟩) (yab a1.out h4.out (by decide)) (fun _ hk => hk.2) (.int .i64 u6)) (fun _ hk => hk.2) (.int .i64 u7)) (fun _ hk => hk.2) (.slice n0 l5.length n1)) (fun _ hk => by first | exact ⟨hk.1.1, ⟨hk.1.2.1, hk.1.2.2⟩⟩ | exact True.intro | exact hk.1 | exact hk.1.1 | exact hk.1.2.1 | exact hk.1.2.2 | exact hk.2)⟩, ⟨by (with_reducible repeat (first | apply yak | apply yal | apply yan)); exact yaj (yac (p := ⟨d5, 2, none⟩) (yac (p := ⟨d5, 1, none⟩) (yac (p := ⟨d5, 0, none⟩) (yab a4.out h4.out (by decide)) (fun _ hk => hk.2) (.int .i64 u6)) (fun _ hk => hk.2) (.int .i64 u7)) (fun _ hk => hk.2) (.slice n0 l5.length n1)) (fun _ hk => by first | exact ⟨hk.1.1, ⟨hk.1.2.1, hk.1.2.2⟩⟩ | exact True.intro | exact hk.1 | exact hk.1.1 | exact hk.1.2.1 | exact hk.1.2.2 | exact hk.2)⟩, ⟨by (with_reducible repeat (first | apply yak | apply yal | apply yan)); exact yaj (yac (p := ⟨d5, 2, none⟩) (yac (p := ⟨d5, 1, none⟩) (yac (p := ⟨d5, 0, none⟩) (yab a5.out h4.out (by decide)) (fun _ hk => hk.2) (.int .i64 u6)) (fun _ hk => hk.2) (.int .i64 u7)) (fun _ hk => hk.2) (.slice n0 l5.length n1)) (fun _ hk => by first | exact ⟨hk.1.1, ⟨hk.1.2.1, hk.1.2.2⟩⟩ | exact True.intro | exact hk.1 | exact hk.1.1 | exact hk.1.2.1 | exact hk.1.2.2 | exact hk.2)⟩, ⟨by (with_reducible repeat (first | apply Kd.V_alloc | apply Kd.V_drewN | apply Kd.V_drew)); exact Kd.V_mono (Kd.V_far (p := ⟨d5, 2, none⟩) (Kd.V_far (p := ⟨d5, 1, none⟩) (Kd.V_far (p := ⟨d5, 0, none⟩) (Kd.V_mono b2.out (fun k_ hk => (⟨hk, hk.2⟩ : _ ∧ k_ ≠ d5))) (fun _ hk => hk.2) (.int .i64 u6)) (fun _ hk => hk.2) (.int .i64 u7)) (fun _ hk => hk.2) (.slice n0 l5.length n1)) (fun _ hk => by grind)⟩, ⟨by (with_reducible repeat (first | apply yak | apply yal | apply yan)); exact yaj (yac (p := ⟨d5, 2, none⟩) (yac (p := ⟨d5, 1, none⟩) (yac (p := ⟨d5, 0, none⟩) (yab a7.out h4.out (by decide)) (fun _ hk => hk.2) (.int .i64 u6)) (fun _ hk => hk.2) (.int .i64 u7)) (fun _ hk => hk.2) (.slice n0 l5.length n1)) (fun _ hk => by first | exact ⟨hk.1.1, ⟨hk.1.2.1, hk.1.2.2⟩⟩ | exact True.intro | exact hk.1 | exact hk.1.1 | exact hk.1.2.1 | exact hk.1.2.2 | exact hk.2)⟩, ⟨by (with_reducible repeat (first | apply Kd.V_alloc | apply Kd.V_drewN | apply Kd.V_drew)); exact Kd.V_mono (Kd.V_far (p := ⟨d5, 2, none⟩) (Kd.V_far (p := ⟨d5, 1, none⟩) (Kd.V_far (p := ⟨d5, 0, none⟩) (Kd.V_mono C9.out (fun k_ hk => (⟨hk, hk.2⟩ : _ ∧ k_ ≠ d5))) (fun _ hk => hk.2) (.int .i64 u6)) (fun _ hk => hk.2) (.int .i64 u7)) (fun _ hk => hk.2) (.slice n0 l5.length n1)) (fun _ hk => by grind)⟩, ⟨by repeat (with_reducible first | exact a3.out | refine oneB ?_ | refine yao ?_ i4.out _)⟩, ⟨by repeat (with_reducible first | exact a2.out | refine oneB ?_ | refine yao ?_ i5.out _)⟩, ⟨by repeat (with_reducible first | exact a9.out | refine oneB ?_ | refine yao ?_ i6.out _)⟩, ⟨by repeat (with_reducible first | exact b0.out | refine oneB ?_ | refine yao ?_ i7.out _)⟩, ⟨by repeat (with_reducible first | exact b5.out | refine oneB ?_ | refine yao ?_ i8.out _)⟩, ⟨by repeat (with_reducible first | exact b4.out | refine oneB ?_ | refine yao ?_ i9.out _)⟩, ⟨by (repeat refine oneB ?_); refine yas (cs := #[.int .i64 u6, .int .i64 u7, .slice none 0 0]) ?_ 2 _ rfl; refine yas (cs := #[.int .i64 u6, .int .i64 0, .slice none 0 0]) ?_ 1 _ rfl; refine yas (cs := #[.int .i64 0, .int .i64 0, .slice none 0 0]) ?_ 0 _ rfl; exact upB h4.out⟩, ⟨by repeat (with_reducible first | exact HB.out | apply yaf | apply yad | apply yag | refine yai ?_ (Aside0.out ‹_›))⟩⟩
       case round =>
        clear H'; (try clear c1); (try clear p1); (try clear q1); (try clear hx1); (try clear c2); (try clear D7); (try clear D8); (try clear p2); (try clear c3); (try clear c4); (try clear c5); (try clear c6); (try clear p6); (try clear c7); (try clear c8); (try clear c9); (try clear c10); (try clear c11); (try clear c12); (try clear c13); (try clear p13); (try clear q13); (try clear hx13); (try clear c14); (try clear p14); (try clear q14); (try clear hx14); (try clear c15); (try clear c16); (try clear c17); (try clear c24); (try clear c25); (try clear c26); (try clear c30); (try clear c31); (try clear c32); (try clear c33); (try clear c35); (try clear c36); (try clear c39); (try clear c40); (try clear c41); (try clear c43); (try clear c44); (try clear c47); (try clear c48); (try clear c50); (try clear c51); (try clear c52); (try clear c54); (try clear c55); (try clear c62); (try clear c63); (try clear c64); (try clear p64); (try clear c65); (try clear c68); (try clear E1); (try clear c69); (try clear c69b0); (try clear c70); (try clear E2); (try clear E3); (try clear c71); (try clear c72); (try clear c73); (try clear c74); (try clear c76); (try clear c77); (try clear c78); (try clear c79); (try clear c81); (try clear c82); (try clear c83); (try clear c86); (try clear c87); (try clear c88); (try clear c89); (try clear c90); (try clear c92); (try clear K4); (try clear c93); (try clear c93b0); (try clear c94); (try clear c95); (try clear c96); (try clear c97); (try clear c98); (try clear c99); (try clear c102); (try clear c103); (try clear c104); (try clear c105); (try clear c106); (try clear c107); (try clear c109); (try clear c110); (try clear c111); (try clear c112); (try clear c118); (try clear c119); (try clear c120); (try clear c121); (try clear c122); (try clear c124); (try clear c125); (try clear c126); (try clear c127); (try clear c129); (try clear c130); (try clear c131); (try clear p138); (try clear q138); (try clear hx138); (try clear c139); (try clear c140); (try clear p140); (try clear q140); (try clear hx140); (try clear c141); (try clear c142); (try clear c143); (try clear c144); (try clear E4); (try clear E5); (try clear E6); (try clear F0); (try clear F1); (try clear F2); (try clear F3); (try clear F8); (try clear F9); (try clear G0); (try clear G4); (try clear G5); (try clear G6); (try clear n2); (try clear n3); (try clear n4); (try clear H0); (try clear H1); (try clear H2); (try clear H6); (try clear H7); (try clear H8); (try clear I2); (try clear I3); (try clear I4); (try clear I5); (try clear I6); (try clear n8); (try clear n9); (try clear o0); (try clear o1); (try clear o2); (try clear J2); (try clear J3); (try clear J4); (try clear o8); (try clear o9); (try clear p0); (try clear p7); (try clear p8); (try clear p9); (try clear q4); (try clear q5); (try clear q6); (try clear q7); (try clear q8); (try clear r4); (try clear r5); (try clear r6); (try clear s0); (try clear s1); (try clear s2); (try clear s6); (try clear s7); (try clear s8); (try clear t2); (try clear t3); (try clear t4); (try clear t8); (try clear t9); (try clear u0); (try clear v3); (try clear v4); (try clear v5); (try clear v9); (try clear w1); (try clear w2); (try clear w3); (try clear w4); (try clear x3); (try clear x4); (try clear x5); (try clear z7); (try clear z8); (try clear z9); (try clear B1); (try clear B2); (try clear B3); (try clear B7); (try clear B8); (try clear B9); (try clear C3); (try clear C4); (try clear C5); (try clear E7); (try clear E8); (try clear E9); (try clear F4); (try clear F5); (try clear F6); (try clear F7); (try clear G1); (try clear G2); (try clear G3); (try clear G7); (try clear G8); (try clear G9); (try clear n5); (try clear n6); (try clear n7); (try clear H3); (try clear H4); (try clear H5); (try clear H9); (try clear I0); (try clear I1); (try clear I7); (try clear I8); (try clear I9); (try clear J0); (try clear J1); (try clear o3); (try clear o4); (try clear o5); (try clear o6); (try clear o7); (try clear J5); (try clear J6); (try clear J7); (try clear p3); (try clear p4); (try clear p5); (try clear q0); (try clear q2); (try clear q3); (try clear q9); (try clear r0); (try clear r1); (try clear r2); (try clear r3); (try clear r7); (try clear r8); (try clear r9); (try clear s3); (try clear s4); (try clear s5); (try clear s9); (try clear t0); (try clear t1); (try clear t5); (try clear t6); (try clear t7); (try clear u1); (try clear u2); (try clear u3); (try clear v6); (try clear v7); (try clear v8); (try clear w5); (try clear w6); (try clear x0); (try clear x1); (try clear x2); (try clear x7); (try clear x8); (try clear x9); (try clear A1); (try clear A2); (try clear A6); (try clear B4); (try clear B5); (try clear B6); (try clear C0); (try clear C1); (try clear C2); (try clear C6); (try clear C7); (try clear C8); (try clear A7); (try clear A8); (try clear A9); (try clear B0); (try clear J9); (try clear K0); (try clear K1); (try clear K2); (try clear p1); (try clear p13); (try clear p138); (try clear p140); (try clear p2); (try clear p6)
        (try clear p64); (try clear q1); (try clear q13); (try clear q138); (try clear q140); obtain ⟨j6, rfl, HA, HK4, a1, a4, a5, b2, a7, j7, a3, a2, a9, b0, b5, b4, h4, HB⟩ := hrel
        cases gk with
        | zero => exact absurd HA.out (by simp [laws_FnOpCover.l2])
        | succ k4 =>
         have H := HA.out; clear HA
         simp only [laws_FnOpCover.l2] at H
         by_cases D6 : j6 < (l5.length : Int)
         rotate_left
         ·
          rw [if_neg D6] at H
          have L0 : decide (j6 < (l5.length : Int)) = false := decide_eq_false D6; clear D6; obtain rfl := Option.some.inj H; have bM := k6.out; have bN := i4.out; have bO := k7.out; have bP := i5.out; have bQ := k8.out; have bR := i6.out; have bS := k9.out; have bT := i7.out; have bU := l3.out; have bV := i8.out; have bW := l4.out; have bX := i9.out; obtain ⟨Q6, Q7, Q8⟩ := cc3_ h4.out; obtain ⟨Q9, R0, R1⟩ := cf3_ h4.out; have bY := h8.out; have bZ := g1.out; have cA := g9.out; have cB := g0.out; have cC := k0.out; have cD := h9.out; have cE := k1.out; have cF := i0.out; have cG := h0.out; have cH := k5.out; obtain ⟨R2, R3, R4⟩ := cc3_ b5.out; obtain ⟨R5, R6, R7⟩ := cf3_ b5.out
          go_wp2
          go_ret
          exact ⟨by first | rfl | (simp [*, errW_none, errW_some] <;> rfl), by repeat (with_reducible first | exact HB.out | apply yaf | apply yad | apply yag | refine yai ?_ (Aside0.out ‹_›))⟩
         rw [if_pos D6] at H
         have L0 : decide (j6 < (l5.length : Int)) = true := decide_eq_true D6; clear D6
         by_cases z2 : e3 = 8
         ·
          rw [if_pos z2] at H
          have L1 := beq_iff_eq.mpr z2; have L2 := bne_eq_false_iff_eq.mpr z2; clear z2; have H' := yaa H; clear H; have Y7 := k6.out; have Y8 := i4.out; have Y9 := k7.out; have Z0 := i5.out; have Z1 := k8.out; have Z2 := i6.out; have Z3 := k9.out; have Z4 := i7.out; have Z5 := l3.out; have Z6 := i8.out; have Z7 := l4.out; have Z8 := i9.out; obtain ⟨N3, N4, N5⟩ := cc3_ h4.out; obtain ⟨N6, N7, N8⟩ := cf3_ h4.out; have Z9 := e5.out; have aA := d6.out; have aC := f9.out; have aD := g6.out; have aE := e7.out; have aG := g8.out; have aH := g0.out; have aI := g9.out; have aJ := g2.out; have aK := j5.out; obtain ⟨N9, O0, O1, O2, O3⟩ := cc5_ a2.out; obtain ⟨O4, O5, O6, O7, O8⟩ := cf5_ a2.out
          go_wp2
          go_roundg k4
          case measure => have := HJ5.out; have := HK2.out; have := HK3.out; have := HK4.out; omega
          case rel => exact ⟨(wrap64 (j6 + 1)), (by first | rfl | (simp; done) | (simp [*]; done)), H', ⟨by have := HJ5.out; have := HK2.out; have := HK3.out; have := HK4.out; omega⟩, ⟨by first | exact a1.out | exact upQ a1.out⟩, ⟨by first | exact a4.out | exact upQ a4.out⟩, ⟨by first | exact a5.out | exact upQ a5.out⟩, ⟨by first | exact b2.out | exact upV b2.out⟩, ⟨by first | exact a7.out | exact upQ a7.out⟩, ⟨by first | exact j7.out | exact upV j7.out⟩, ⟨by exact upB a3.out⟩, ⟨by exact upB a2.out⟩, ⟨by exact upB a9.out⟩, ⟨by exact upB b0.out⟩, ⟨by exact upB b5.out⟩, ⟨by exact upB b4.out⟩, ⟨by exact upB h4.out⟩, ⟨by repeat (with_reducible first | exact HB.out | apply yaf | apply yad | apply yag | refine yai ?_ (Aside0.out ‹_›))⟩⟩
         rw [if_neg z2] at H
         have L1 := beq_eq_false_iff_ne.mpr z2; have L2 := bne_iff_ne.mpr z2
         by_cases K3 : 0 ≤ j6
         ·
          rw [if_pos K3] at H
          replace K3 := decide_eq_true K3
          by_cases z3 : ((yam l5 j6).f3) = 0
          ·
           rw [if_pos z3] at H
           have L3 := beq_iff_eq.mpr z3; have L4 := bne_eq_false_iff_eq.mpr z3; clear z3; have H' := yaa H; clear H; have aM := k6.out; have aN := i4.out; have aQ := k7.out; have aR := i5.out; have aT := k8.out; have aU := i6.out; have aV := k9.out; have aW := i7.out; have aX := l3.out; have aY := i8.out; have aZ := l4.out; have bA := i9.out; obtain ⟨O9, P0, P1⟩ := cc3_ h4.out; obtain ⟨P2, P3, P4⟩ := cf3_ h4.out; have bB := e5.out; have bC := d6.out; have bD := f9.out; have bE := g6.out; have bF := e7.out; have bG := g8.out; have bH := g0.out; have bI := g9.out; have bJ := g2.out; have bK := j5.out; obtain ⟨P5, P6, P7, P8, P9⟩ := cc5_ a2.out; obtain ⟨Q0, Q1, Q3, Q4, Q5⟩ := cf5_ a2.out; have p154 : 0 ≤ (j6 : Int) := of_decide_eq_true (by assumption); have q154 : j6 < (l5.length : Int) := of_decide_eq_true (by assumption); obtain ⟨ad154, bL, R8, R9, S0, S1⟩ := at_T36 (Kd.V_reads' j7.out).2.2 j6 p154 q154
           cases bL
           replace p154 := eq_true p154; replace q154 := eq_true q154
           go_wp2
           go_roundg k4
           case measure => have := HJ5.out; have := HK2.out; have := HK3.out; have := HK4.out; omega
           case rel => exact ⟨(wrap64 (j6 + 1)), (by first | rfl | (simp; done) | (simp [*]; done)), H', ⟨by have := HJ5.out; have := HK2.out; have := HK3.out; have := HK4.out; omega⟩, ⟨by first | exact a1.out | exact upQ a1.out⟩, ⟨by first | exact a4.out | exact upQ a4.out⟩, ⟨by first | exact a5.out | exact upQ a5.out⟩, ⟨by first | exact b2.out | exact upV b2.out⟩, ⟨by first | exact a7.out | exact upQ a7.out⟩, ⟨by first | exact j7.out | exact upV j7.out⟩, ⟨by exact upB a3.out⟩, ⟨by exact upB a2.out⟩, ⟨by exact upB a9.out⟩, ⟨by exact upB b0.out⟩, ⟨by exact upB b5.out⟩, ⟨by exact upB b4.out⟩, ⟨by exact upB h4.out⟩, ⟨by repeat (with_reducible first | exact HB.out | apply yaf | apply yad | apply yag | refine yai ?_ (Aside0.out ‹_›))⟩⟩
          rw [if_neg z3] at H
          have L3 := beq_eq_false_iff_ne.mpr z3; have L4 := bne_iff_ne.mpr z3
          rw [hrt] at H
          exact absurd H (by simp)
         rw [if_neg K3] at H
         exact absurd H (by simp)
def laws_FnOpCover.Pure : Prop := ∀ (l0 : List Int), l0.length ≤ maxLen → l0.length * 1 ≤ 140737488351232 → (∀ x ∈ l0, (Lit.int .u8 x).wf = true) → ∃ k, laws_FnOpCover.f k l0 = some true
theorem laws_FnOpCover.walk (P : laws_FnOpCover.Pure) (a0 : Option Addr) (len0 cap0 : Nat) (z0 : List Int) (w : World) (w0 : (a0 = none ∧ len0 = 0 ∧ cap0 = 0 ∧ z0 = []) ∨ ∃ x, a0 = some x ∧ len0 ≤ cap0 ∧ cap0 ≤ maxLen ∧ z0.length = cap0 ∧ (∀ i, i < z0.length → w.cell? (x.add i) = some (.int .u8 (z0.getD i 0))) ∧ ∀ n ∈ z0, (Lit.int .u8 n).wf = true) (y0 : len0 * 1 ≤ 140737488351232) :
  Calls Try.prog 3 #[.slice a0 len0 cap0] w fun e w' => e = .returned (.bool true) ∧ Below w.heap.size w w' := by
 obtain ⟨l0, rfl, hr0, hm0, hw0, hc0⟩ := ReadsInt.ofRowC w0; obtain ⟨k, h⟩ := P l0 hm0 y0 hw0
 refine (laws_FnOpCover.calls k _ _ l0 true w (Kd.C_of_reads (d := (0 : Int)) (h1 := fun _ => rfl) hr0) hc0 h rfl).mono ?_
 rintro e w' ⟨rfl, hd⟩
 exact ⟨rfl, hd⟩
end
end Go.Proofs.Ytoifpgkfpdeglaa.X
namespace Go.Proofs.Ytoifpgkfpdeglaa.X
open Go.RowKit Go.Proofs.YtoifpgkfpdeglaaW.PrintWords Go.Proofs.Ytoifpgkfpdeglaa.Pl
set_option linter.unusedSimpArgs false
set_option linter.unusedVariables false
theorem mk_succ (w h : Nat) (f : Nat → Nat → Pix) : mk w (h + 1) f = mk w h f ++ (List.range' 0 w).map fun x => f x h := by
  unfold mk
  rw [Nat.mul_add, Nat.mul_one, List.range_add, List.map_append, List.map_map, ← List.range_eq_range']
  congr 1
  apply List.map_congr_left
  intro x hx
  have hx' := List.mem_range.1 hx
  show f ((w * h + x) % w) ((w * h + x) / w) = f x h
  rw [Nat.mul_add_mod, Nat.mod_eq_of_lt hx', Nat.mul_add_div (by omega), Nat.div_eq_of_lt hx', Nat.add_zero]
theorem mk_zero (w : Nat) (f : Nat → Nat → Pix) : mk w 0 f = [] := by unfold mk; simp
theorem ev_rows {β : Type} (w h : Nat) (f : Nat → Nat → Pix) (g0 : Nat → Nat → List Pix → Option β) (g1 : Nat → Nat → Nat → List Pix → Option β) (R : β) (hw : w ≤ 6) (hh : h ≤ 6)
    (hstart : ∀ i s r, i < h → Ev (fun k => g1 k i 0 s) r → Ev (fun k => g0 k i s) r)
    (hin : ∀ i j s r, i < h → j < w → s.length ≤ 10000 → Ev (fun k => g1 k i (j + 1) (s ++ [f j i])) r → Ev (fun k => g1 k i j s) r)
    (hout : ∀ i s r, i < h → Ev (fun k => g0 k (i + 1) s) r → Ev (fun k => g1 k i w s) r)
    (hend : Ev (fun k => g0 k h (mk w h f)) R) : Ev (fun k => g0 k 0 []) R := by
  have inner : ∀ i, i < h → ∀ d j, j + d = w → ∀ (s : List Pix) r, s.length + d ≤ 10000 → Ev (fun k => g1 k i w (s ++ (List.range' j d).map fun x => f x i)) r → Ev (fun k => g1 k i j s) r := by
    intro i hi d
    induction d with
    | zero => intro j hj s r _ h; obtain rfl : j = w := by omega
              simpa using h
    | succ d ih =>
      intro j hj s r hs h
      refine hin i j s r hi (by omega) (by omega) (ih (j + 1) (by omega) _ r (by rw [List.length_append]; simp only [List.length_cons, List.length_nil]; omega) ?_)
      rw [List.range'_succ, List.map_cons] at h
      rw [List.append_assoc, List.singleton_append]
      exact h
  have outer : ∀ d i, i + d = h → Ev (fun k => g0 k i (mk w i f)) R := by
    intro d
    induction d with
    | zero => intro i hi; obtain rfl : i = h := by omega
              exact hend
    | succ d ih =>
      intro i hi
      have hm : w * i ≤ 6 * 6 := Nat.mul_le_mul hw (by omega)
      refine hstart i _ R (by omega) (inner i (by omega) w 0 (by omega) _ R (by rw [mk_length]; omega) (hout i _ R (by omega) ?_))
      rw [← mk_succ]
      exact ih (i + 1) (by omega)
  have := outer h 0 (by omega)
  rwa [mk_zero] at this
theorem ev_line {β : Type} (n : Nat) (F : Nat → Pix) (g : Nat → Nat → List Pix → Option β) (R : β) (hn : n ≤ 10000)
    (hstep : ∀ i s r, i < n → s.length = i → Ev (fun k => g k (i + 1) (s ++ [F i])) r → Ev (fun k => g k i s) r)
    (hend : Ev (fun k => g k n ((List.range n).map F)) R) : Ev (fun k => g k 0 []) R := by
  have outer : ∀ d i, i + d = n → Ev (fun k => g k i ((List.range i).map F)) R := by
    intro d
    induction d with
    | zero => intro i hi; obtain rfl : i = n := by omega
              exact hend
    | succ d ih =>
      intro i hi
      refine hstep i _ R (by omega) (by simp) ?_
      have := ih (i + 1) (by omega)
      rwa [List.range_succ, List.map_append] at this
  exact outer n 0 (by omega)
theorem wadd {a b : Nat} (h : a + b ≤ 1000000) : wrap64 ((a : Int) + (b : Int)) = ((a + b : Nat) : Int) := by rw [← Int.natCast_add]; exact wrap_id (by omega) (by omega)
theorem wadd1 {a : Nat} (h : a ≤ 999999) : wrap64 ((a : Int) + 1) = ((a + 1 : Nat) : Int) := wadd (a := a) (b := 1) (by omega)
theorem wmul {a b : Nat} (h : a * b ≤ 1000000) : wrap64 ((a : Int) * (b : Int)) = ((a * b : Nat) : Int) := by
  rw [← Int.natCast_mul]; exact wrap_id (Int.le_trans (by decide) (Int.natCast_nonneg _)) (Int.le_trans (Int.ofNat_le.2 h) (by decide))
theorem wmul2 {b : Nat} (h : b ≤ 1000) : wrap64 (2 * (b : Int)) = ((2 * b : Nat) : Int) := wmul (a := 2) (b := b) (by omega)
theorem wsub {a b : Nat} (h : b ≤ a) (ha : a ≤ 1000000) : wrap64 ((a : Int) - (b : Int)) = ((a - b : Nat) : Int) := by rw [← Int.ofNat_sub h]; exact wrap_id (by omega) (by omega)
theorem wsub1 {a : Nat} (h : 1 ≤ a) (ha : a ≤ 1000000) : wrap64 ((a : Int) - 1) = ((a - 1 : Nat) : Int) := wsub (b := 1) h ha
theorem wdiv {a b : Nat} (ha : a ≤ 1000000) : wrap64 (Int.tdiv (a : Int) (b : Int)) = ((a / b : Nat) : Int) := by
  rw [show Int.tdiv (a : Int) (b : Int) = ((a / b : Nat) : Int) from rfl]
  have := Nat.div_le_self a b
  exact wrap_id (Int.le_trans (by decide) (Int.natCast_nonneg _)) (Int.le_trans (Int.ofNat_le.2 (Nat.le_trans this ha)) (by decide))
theorem place_le {x y wd hg : Nat} (hw : wd ≤ 6) (hh : hg ≤ 6) (hy : y < hg) (hx : x < wd) : y * wd ≤ 36 ∧ y * wd + x ≤ 100 := by
  have : y * wd ≤ 6 * 6 := Nat.mul_le_mul (by omega) hw
  omega
theorem at_place {l : List Pix} {wd hg x y : Nat} (hl : l.length = wd * hg) (hx : x < wd) (hy : y < hg) : (0 : Int) ≤ ((y * wd + x : Nat) : Int) ∧ ((y * wd + x : Nat) : Int) < (l.length : Int) := by
  have := place_lt hx hy hl
  omega
theorem rd_pix (l : List Pix) (wd x y : Nat) : (⟨(rd_T36 l ((y * wd + x : Nat) : Int)).f0, (rd_T36 l ((y * wd + x : Nat) : Int)).f1, (rd_T36 l ((y * wd + x : Nat) : Int)).f2, (rd_T36 l ((y * wd + x : Nat) : Int)).f3⟩ : Pix) = pix l wd x y := rfl
theorem spec_l6Crop_ev {wd hg : Nat} {l : List Pix} (hv : Valid wd hg l) (o : Op) (h0 : o.f0 = 1) (ho : OkO o) (hm : hasM o wd hg = true) :
    Ev (fun k => spec_l6Crop.f k wd hg l o.f0 o.f1 o.f2 o.f3 o.f4) ((wideM o wd hg : Int), (highM o wd hg : Int), picM o wd hg l) := by
  obtain ⟨hw, hh, hl, -⟩ := hv
  have hbd : (0 ≤ o.f1 ∧ o.f1 ≤ 5) ∧ (0 ≤ o.f2 ∧ o.f2 ≤ 5) ∧ (1 ≤ o.f3 ∧ o.f3 ≤ 6) ∧ (1 ≤ o.f4 ∧ o.f4 ≤ 6) := by
    rcases ho with ⟨_, h⟩ | ⟨h, _⟩ | ⟨h, _⟩ | ⟨h, _⟩
    · exact h
    · omega
    · omega
    · omega
  have hc := hasM_crop hm h0
  obtain ⟨a0, a1, a2, a3, a4⟩ := o
  dsimp only at h0 hbd hc ⊢
  obtain ⟨A, rfl⟩ : ∃ n : Nat, a1 = n := ⟨a1.toNat, by omega⟩
  obtain ⟨B, rfl⟩ : ∃ n : Nat, a2 = n := ⟨a2.toNat, by omega⟩
  obtain ⟨C, rfl⟩ : ∃ n : Nat, a3 = n := ⟨a3.toNat, by omega⟩
  obtain ⟨D, rfl⟩ : ∃ n : Nat, a4 = n := ⟨a4.toNat, by omega⟩
  subst h0
  have e : picM ⟨1, A, B, C, D⟩ wd hg l = mk C D fun x y => pix l wd (A + x) (B + y) := rfl
  rw [e]
  refine ev_rows C D (fun x y => pix l wd (A + x) (B + y)) (fun k i s => spec_l6Crop.l0 k i wd hg l 1 A B C D C D s) (fun k i j s => spec_l6Crop.l1 k i j wd hg l 1 A B C D C D s) _ (by omega) (by omega) ?_ ?_ ?_ ?_
  · intro i s r hi h
    refine Ev.step (fun k => ?_) h
    simp only [spec_l6Crop.l0]
    rw [if_pos (by omega)]
    rfl
  · intro i j s r hi hj hs h
    refine Ev.step (fun k => ?_) h
    have hp := place_le hw.2 hh.2 (show B + i < hg by omega) (show A + j < wd by omega)
    have ha := at_place hl (show A + j < wd by omega) (show B + i < hg by omega)
    simp only [spec_l6Crop.l1]
    rw [if_pos (by omega), wadd (a := B) (b := i) (by omega), wmul (by omega), wadd (b := A) (by omega), wadd (b := j) (by omega), Nat.add_assoc, if_pos ha.1, if_pos ha.2, if_pos (by omega), wadd1 (by omega), rd_pix]
  · intro i s r hi h
    refine Ev.step (fun k => ?_) h
    simp only [spec_l6Crop.l1]
    rw [if_neg (by omega), wadd1 (by omega)]
  · refine ev_succ ⟨0, fun k _ => ?_⟩
    simp only [spec_l6Crop.l0]
    rw [if_neg (by omega)]
    rfl
theorem spec_l6FlipX_ev {wd hg : Nat} {l : List Pix} (hv : Valid wd hg l) : Ev (fun k => spec_l6FlipX.f k wd hg l) ((wd : Int), (hg : Int), picM ⟨2, 0, 0, 0, 0⟩ wd hg l) := by
  obtain ⟨hw, hh, hl, -⟩ := hv
  rw [picM_flipX]
  refine ev_rows wd hg (fun x y => pix l wd (wd - 1 - x) y) (fun k i s => spec_l6FlipX.l0 k i wd hg l wd hg s) (fun k i j s => spec_l6FlipX.l1 k i ((wd : Int) - 1 - j) wd hg l wd hg s) _ (by omega) (by omega) ?_ ?_ ?_ ?_
  · intro i s r hi h
    refine Ev.step (fun k => ?_) h
    simp only [spec_l6FlipX.l0]
    rw [if_pos (by omega), wsub1 (by omega) (by omega)]
    congr 1
    omega
  · intro i j s r hi hj hs h
    refine Ev.step (fun k => ?_) h
    have hp := place_le hw.2 hh.2 hi (show wd - 1 - j < wd by omega)
    have ha := at_place hl (show wd - 1 - j < wd by omega) hi
    have e1 : (wd : Int) - 1 - (j : Int) = ((wd - 1 - j : Nat) : Int) := by omega
    have e2 : wrap64 (((wd - 1 - j : Nat) : Int) - 1) = (wd : Int) - 1 - ((j + 1 : Nat) : Int) := by rw [wrap_id (by omega) (by omega)]; omega
    simp only [spec_l6FlipX.l1]
    rw [if_pos (by omega), e1, wmul (by omega), wadd (by omega), if_pos ha.1, if_pos ha.2, if_pos (by omega), e2, rd_pix]
  · intro i s r hi h
    refine Ev.step (fun k => ?_) h
    simp only [spec_l6FlipX.l1]
    rw [if_neg (by omega), wadd1 (by omega)]
  · refine ev_succ ⟨0, fun k _ => ?_⟩
    simp only [spec_l6FlipX.l0]
    rw [if_neg (by omega)]
theorem spec_l6Turn_ev {wd hg : Nat} {l : List Pix} (hv : Valid wd hg l) : Ev (fun k => spec_l6Turn.f k wd hg l) ((hg : Int), (wd : Int), picM ⟨4, 0, 0, 0, 0⟩ wd hg l) := by
  obtain ⟨hw, hh, hl, -⟩ := hv
  rw [picM_turn]
  refine ev_rows hg wd (fun x y => pix l wd y (hg - 1 - x)) (fun k i s => spec_l6Turn.l0 k i wd hg l hg wd s) (fun k i j s => spec_l6Turn.l1 k i j wd hg l hg wd s) _ (by omega) (by omega) ?_ ?_ ?_ ?_
  · intro i s r hi h
    refine Ev.step (fun k => ?_) h
    simp only [spec_l6Turn.l0]
    rw [if_pos (by omega)]
    rfl
  · intro i j s r hi hj hs h
    refine Ev.step (fun k => ?_) h
    have hp := place_le hw.2 hh.2 (show hg - 1 - j < hg by omega) hi
    have ha := at_place hl hi (show hg - 1 - j < hg by omega)
    simp only [spec_l6Turn.l1]
    rw [if_pos (by omega), wsub1 (by omega) (by omega), wsub (by omega) (by omega), wmul (by omega), wadd (by omega), if_pos ha.1, if_pos ha.2, if_pos (by omega), wadd1 (by omega), rd_pix]
  · intro i s r hi h
    refine Ev.step (fun k => ?_) h
    simp only [spec_l6Turn.l1]
    rw [if_neg (by omega), wadd1 (by omega)]
  · refine ev_succ ⟨0, fun k _ => ?_⟩
    simp only [spec_l6Turn.l0]
    rw [if_neg (by omega)]
theorem spec_l6Size_ev {wd hg : Nat} {l : List Pix} (hv : Valid wd hg l) {a b : Nat} (ha : 1 ≤ a ∧ a ≤ 6) (hb : 1 ≤ b ∧ b ≤ 6) : Ev (fun k => spec_l6Size.f k wd hg l 7 a b 0 0) ((a : Int), (b : Int), picM ⟨7, a, b, 0, 0⟩ wd hg l) := by
  obtain ⟨hw, hh, hl, -⟩ := hv
  have e : picM ⟨7, a, b, 0, 0⟩ wd hg l = mk a b fun x y => pix l wd ((2 * x + 1) * wd / (2 * a)) ((2 * y + 1) * hg / (2 * b)) := rfl
  rw [e]
  refine ev_rows a b (fun x y => pix l wd ((2 * x + 1) * wd / (2 * a)) ((2 * y + 1) * hg / (2 * b))) (fun k i s => spec_l6Size.l0 k i wd hg l 7 a b 0 0 a b s) (fun k i j s => spec_l6Size.l1 k i j wd hg l 7 a b 0 0 a b s) _ (by omega) (by omega) ?_ ?_ ?_ ?_
  · intro i s r hi h
    refine Ev.step (fun k => ?_) h
    simp only [spec_l6Size.l0]
    rw [if_pos (by omega)]
    rfl
  · intro i j s r hi hj hs h
    refine Ev.step (fun k => ?_) h
    have hx := scale_lt (n := a) hj (show 0 < wd by omega)
    have hy := scale_lt (n := b) hi (show 0 < hg by omega)
    have hp := place_le hw.2 hh.2 hy hx
    have hat := at_place hl hx hy
    have q1 : (2 * i + 1) * hg ≤ 13 * 6 := Nat.mul_le_mul (by omega) hh.2
    have q2 : (2 * j + 1) * wd ≤ 13 * 6 := Nat.mul_le_mul (by omega) hw.2
    simp only [spec_l6Size.l1]
    rw [if_pos (by omega), wmul2 (b := b) (by omega), if_neg (by omega), wmul2 (b := a) (by omega), if_neg (by omega), wmul2 (b := i) (by omega), wadd1 (by omega), wmul (by omega), wdiv (by omega), wmul2 (b := j) (by omega), wadd1 (by omega), wmul (a := 2 * j + 1) (b := wd) (by omega), wdiv (by omega), wmul (by omega), wadd (by omega), if_pos hat.1, if_pos hat.2, if_pos (by omega), wadd1 (by omega), rd_pix]
  · intro i s r hi h
    refine Ev.step (fun k => ?_) h
    simp only [spec_l6Size.l1]
    rw [if_neg (by omega), wadd1 (by omega)]
  · refine ev_succ ⟨0, fun k _ => ?_⟩
    simp only [spec_l6Size.l0]
    rw [if_neg (by omega)]
end Go.Proofs.Ytoifpgkfpdeglaa.X
namespace Go.Proofs.Ytoifpgkfpdeglaa.X
open Go.RowKit Go.Proofs.YtoifpgkfpdeglaaW.PrintWords Go.Proofs.Ytoifpgkfpdeglaa.Pl
set_option linter.unusedSimpArgs false
set_option linter.unusedVariables false
theorem ev_blocks {β : Type} (w h : Nat) (f : Nat → Nat → Pix) (g : Nat → Nat → List Pix → Option β) (R : β) (hw : w ≤ 6) (hh : h ≤ 6)
    (hstep : ∀ i s r, i < h → s.length ≤ 10000 → Ev (fun k => g k (i + 1) (s ++ (List.range' 0 w).map fun x => f x i)) r → Ev (fun k => g k i s) r)
    (hend : Ev (fun k => g k h (mk w h f)) R) : Ev (fun k => g k 0 []) R := by
  have outer : ∀ d i, i + d = h → Ev (fun k => g k i (mk w i f)) R := by
    intro d
    induction d with
    | zero => intro i hi; obtain rfl : i = h := by omega
              exact hend
    | succ d ih =>
      intro i hi
      have hm : w * i ≤ 6 * 6 := Nat.mul_le_mul hw (by omega)
      refine hstep i _ R (by omega) (by rw [mk_length]; omega) ?_
      rw [← mk_succ]
      exact ih (i + 1) (by omega)
  have := outer h 0 (by omega)
  rwa [mk_zero] at this
theorem row_eq {wd hg y : Nat} {l : List Pix} (hl : l.length = wd * hg) (hy : y < hg) : (l.take ((y + 1) * wd)).drop (y * wd) = (List.range' 0 wd).map fun x => pix l wd x y := by
  have h1 : (y + 1) * wd ≤ hg * wd := Nat.mul_le_mul_right _ (by omega)
  have h2 : (y + 1) * wd = y * wd + wd := by rw [Nat.add_mul, Nat.one_mul]
  have h3 : hg * wd = l.length := by rw [hl, Nat.mul_comm]
  rw [← List.range_eq_range']
  apply List.ext_getElem?
  intro i
  rw [List.getElem?_drop, List.getElem?_take, List.getElem?_map]
  by_cases hi : i < wd
  · rw [if_pos (by omega), List.getElem?_range hi, List.getElem?_eq_getElem (by omega)]
    unfold pix
    rw [Option.map_some, List.getD_eq_getElem?_getD, List.getElem?_eq_getElem (by omega)]
    rfl
  · rw [if_neg (by omega), List.getElem?_eq_none (by simp; omega)]
    rfl
theorem spec_l5Flip_ev {wd hg : Nat} {l : List Pix} (hv : Valid wd hg l) : Ev (fun k => spec_l5Flip.f k wd hg l) ((wd : Int), (hg : Int), picM ⟨3, 0, 0, 0, 0⟩ wd hg l) := by
  obtain ⟨hw, hh, hl, -⟩ := hv
  rw [picM_flipY]
  have := ev_blocks wd hg (fun x y => pix l wd x (hg - 1 - y)) (fun k i s => spec_l5Flip.l0 k ((hg : Int) - 1 - i) wd hg l wd hg s) ((wd : Int), (hg : Int), mk wd hg fun x y => pix l wd x (hg - 1 - y)) (by omega) (by omega) ?_ ?_
  · refine Ev.congr (fun k => ?_) this
    show spec_l5Flip.f k wd hg l = _
    unfold spec_l5Flip.f
    rw [wrap_id (x := (hg : Int) - 1) (by omega) (by omega)]
    congr 1
    omega
  · intro i s r hi hs h
    refine Ev.step (fun k => ?_) h
    have e1 : (hg : Int) - 1 - (i : Int) = ((hg - 1 - i : Nat) : Int) := by omega
    have e2 : wrap64 (((hg - 1 - i : Nat) : Int) - 1) = (hg : Int) - 1 - ((i + 1 : Nat) : Int) := by rw [wrap_id (by omega) (by omega)]; omega
    have q1 : (hg - 1 - i) * wd ≤ 6 * 6 := Nat.mul_le_mul (by omega) hw.2
    have q2 : (hg - 1 - i + 1) * wd ≤ 7 * 6 := Nat.mul_le_mul (by omega) hw.2
    have h1 : (hg - 1 - i + 1) * wd ≤ hg * wd := Nat.mul_le_mul_right _ (by omega)
    have h2 : (hg - 1 - i + 1) * wd = (hg - 1 - i) * wd + wd := by rw [Nat.add_mul, Nat.one_mul]
    have h3 : hg * wd = l.length := by rw [hl, Nat.mul_comm]
    have hr := row_eq (y := hg - 1 - i) hl (by omega)
    have hlen : ((l.take ((hg - 1 - i + 1) * wd)).drop ((hg - 1 - i) * wd)).length ≤ 100 := by rw [hr]; simp; omega
    simp only [spec_l5Flip.l0]
    rw [if_pos (by omega), e1, wmul (by omega), wadd1 (by omega), wmul (by omega), if_pos (by omega), if_pos (by omega), if_pos (by omega), Option.bind_some, Int.toNat_natCast, Int.toNat_natCast, if_pos (by omega), e2, hr]
  · refine ev_succ ⟨0, fun k _ => ?_⟩
    simp only [spec_l5Flip.l0]
    rw [if_neg (by omega)]
theorem mnmx (a b : Int) : mn a b = (if b < a then b else a) ∧ mx a b = (if a < b then b else a) := ⟨rfl, rfl⟩
theorem mean_inner (l : List Pix) {wd hg x y Y : Nat} (hl : l.length = wd * hg) (hw : wd ≤ 6) (hh : hg ≤ 6) (hx : x < wd) (hY : Y < hg) (r : Int × Int × Int × Int) : ∀ d X C (s : Pix), X + d = nearLo x + nearMany x wd → C + d ≤ 1000 →
    Ev (fun k => spec_l6Mean.l0 k x y ((C + d : Nat) : Int) ((Y + 1 : Nat) : Int) wd hg l (rowSum l wd Y X d s).f0 (rowSum l wd Y X d s).f1 (rowSum l wd Y X d s).f2 (rowSum l wd Y X d s).f3) r →
    Ev (fun k => spec_l6Mean.l1 k x y C Y X wd hg l s.f0 s.f1 s.f2 s.f3) r := by
  have hn := nearMany_pos hx
  have hmin : mn (wrap64 ((wd : Int) - 1)) (wrap64 ((x : Int) + 1)) = ((nearLo x + nearMany x wd : Nat) : Int) - 1 := by
    rw [wrap_id (x := (wd : Int) - 1) (by omega) (by omega), wrap_id (x := (x : Int) + 1) (by omega) (by omega), (mnmx _ _).1, hn.2.1]
    split <;> omega
  intro d
  induction d with
  | zero =>
    intro X C s hX hC h
    refine Ev.step (fun k => ?_) h
    simp only [spec_l6Mean.l1]
    rw [hmin, if_neg (by omega), wadd1 (by omega)]
    rfl
  | succ d ih =>
    intro X C s hX hC h
    have hXw : X < wd := near_lt hx (by omega)
    have hp := place_le hw hh hY hXw
    have ha := at_place hl hXw hY
    have := ih (X + 1) (C + 1) (addP s (pix l wd X Y)) (by omega) (by omega) (by rw [show C + 1 + d = C + (d + 1) by omega]; exact h)
    refine Ev.step (fun k => ?_) this
    simp only [spec_l6Mean.l1]
    rw [hmin, if_pos (by omega), wmul (by omega), wadd (by omega), if_pos ha.1, if_pos ha.2, wadd1 (by omega), wadd1 (by omega)]
    rfl
theorem mean_outer (l : List Pix) {wd hg x y : Nat} (hl : l.length = wd * hg) (hw : wd ≤ 6) (hh : hg ≤ 6) (hx : x < wd) (hy : y < hg) : ∀ d Y C (s : Pix), Y + d = nearLo y + nearMany y hg → C + d * nearMany x wd = nearMany y hg * nearMany x wd →
    Ev (fun k => spec_l6Mean.l0 k x y C Y wd hg l s.f0 s.f1 s.f2 s.f3) ((meanP (boxSum l wd (nearLo x) (nearMany x wd) Y d s) (nearMany y hg * nearMany x wd)).f0, (meanP (boxSum l wd (nearLo x) (nearMany x wd) Y d s) (nearMany y hg * nearMany x wd)).f1, (meanP (boxSum l wd (nearLo x) (nearMany x wd) Y d s) (nearMany y hg * nearMany x wd)).f2, (meanP (boxSum l wd (nearLo x) (nearMany x wd) Y d s) (nearMany y hg * nearMany x wd)).f3) := by
  have hn := nearMany_pos hy
  have hnx := nearMany_pos hx
  have hmb := many_bd hx hy
  have hmin : mn (wrap64 ((hg : Int) - 1)) (wrap64 ((y : Int) + 1)) = ((nearLo y + nearMany y hg : Nat) : Int) - 1 := by
    rw [wrap_id (x := (hg : Int) - 1) (by omega) (by omega), wrap_id (x := (y : Int) + 1) (by omega) (by omega), (mnmx _ _).1, hn.2.1]
    split <;> omega
  have hmax : mx 0 (wrap64 ((x : Int) - 1)) = ((nearLo x : Nat) : Int) := by
    rw [wrap_id (x := (x : Int) - 1) (by omega) (by omega), (mnmx _ _).2]
    unfold nearLo
    split <;> omega
  intro d
  induction d with
  | zero =>
    intro Y C s hY hC
    rw [Nat.zero_mul, Nat.add_zero] at hC
    refine ev_succ ⟨0, fun k _ => ?_⟩
    simp only [spec_l6Mean.l0]
    rw [hmin, if_neg (by omega), if_neg (by omega), hC]
    rfl
  | succ d ih =>
    intro Y C s hY hC
    have hC' : C + nearMany x wd + d * nearMany x wd = nearMany y hg * nearMany x wd := by rw [Nat.add_mul, Nat.one_mul] at hC; omega
    have := mean_inner l hl hw hh hx (show Y < hg from near_lt hy (by omega)) _ (nearMany x wd) (nearLo x) C s rfl (by omega) (ih (Y + 1) (C + nearMany x wd) (rowSum l wd Y (nearLo x) (nearMany x wd) s) (by omega) hC')
    refine Ev.step (fun k => ?_) this
    simp only [spec_l6Mean.l0]
    rw [hmin, hmax, if_pos (by omega)]
theorem spec_l6Mean_ev (l : List Pix) {wd hg x y : Nat} (hl : l.length = wd * hg) (hw : wd ≤ 6) (hh : hg ≤ 6) (hx : x < wd) (hy : y < hg) :
    Ev (fun k => spec_l6Mean.f k wd hg l x y) ((blurP l wd hg x y).f0, (blurP l wd hg x y).f1, (blurP l wd hg x y).f2, (blurP l wd hg x y).f3) := by
  have h := mean_outer l hl hw hh hx hy (nearMany y hg) (nearLo y) 0 z36 rfl (by omega)
  have hmax : mx 0 (wrap64 ((y : Int) - 1)) = ((nearLo y : Nat) : Int) := by
    rw [wrap_id (x := (y : Int) - 1) (by omega) (by omega), (mnmx _ _).2]
    unfold nearLo
    split <;> omega
  refine Ev.congr (fun k => ?_) h
  show spec_l6Mean.f k wd hg l x y = _
  unfold spec_l6Mean.f
  rw [hmax]
  rfl
theorem each_ev {wd hg : Nat} {l : List Pix} (hv : Valid wd hg l) (o0 o1 o2 o3 o4 : Int) (F : Nat → Nat → Pix)
    (hstep : ∀ i (s : List Pix) r, i < l.length → s.length = i → Ev (fun k => spec_l6Each.l0 k ((i + 1 : Nat) : Int) wd hg l o0 o1 o2 o3 o4 wd hg (s ++ [F (i % wd) (i / wd)])) r → Ev (fun k => spec_l6Each.l0 k (i : Int) wd hg l o0 o1 o2 o3 o4 wd hg s) r) :
    Ev (fun k => spec_l6Each.f k wd hg l o0 o1 o2 o3 o4) ((wd : Int), (hg : Int), mk wd hg F) := by
  obtain ⟨hw, hh, hl, -⟩ := hv
  have hle : wd * hg ≤ 6 * 6 := Nat.mul_le_mul hw.2 hh.2
  have := ev_line l.length (fun i => F (i % wd) (i / wd)) (fun k i s => spec_l6Each.l0 k i wd hg l o0 o1 o2 o3 o4 wd hg s) ((wd : Int), (hg : Int), mk wd hg F) (by omega) hstep ?_
  · exact this
  · refine ev_succ ⟨0, fun k _ => ?_⟩
    simp only [spec_l6Each.l0]
    rw [if_neg (by omega), hl]
    rfl
theorem rd_at {l : List Pix} {wd i : Nat} : rd_T36 l (i : Int) = pix l wd (i % wd) (i / wd) := by
  unfold pix
  rw [show i / wd * wd + i % wd = i by rw [Nat.mul_comm]; exact Nat.div_add_mod i wd]
  rfl
theorem spec_gray_ev {wd hg : Nat} {l : List Pix} (hv : Valid wd hg l) (a b c d : Int) : Ev (fun k => spec_l6Each.f k wd hg l 5 a b c d) ((wd : Int), (hg : Int), eachM grayP wd hg l) := by
  refine each_ev hv 5 a b c d (fun x y => grayP (pix l wd x y)) ?_
  have hle : wd * hg ≤ 6 * 6 := Nat.mul_le_mul hv.1.2 hv.2.1.2
  have hl := hv.2.2.1
  intro i s r hi hs h
  refine Ev.step (fun k => ?_) h
  rw [spec_l6Each.l0, if_pos (by omega), if_pos rfl, if_pos (by omega), rd_at (wd := wd)]
  show (if s.length < 4398046511104 then _ else none) = _
  rw [if_pos (by omega), wadd1 (by omega)]
  rfl
theorem spec_flat_ev {wd hg : Nat} {l : List Pix} (hv : Valid wd hg l) (a b c d : Int) : Ev (fun k => spec_l6Each.f k wd hg l 8 a b c d) ((wd : Int), (hg : Int), eachM (flatP a b c) wd hg l) := by
  refine each_ev hv 8 a b c d (fun x y => flatP a b c (pix l wd x y)) ?_
  have hle : wd * hg ≤ 6 * 6 := Nat.mul_le_mul hv.1.2 hv.2.1.2
  have hl := hv.2.2.1
  intro i s r hi hs h
  refine Ev.step (fun k => ?_) h
  rw [spec_l6Each.l0, if_pos (by omega), if_neg (by decide), if_neg (by decide), if_pos (by omega), rd_at (wd := wd)]
  show (if s.length < 4398046511104 then _ else none) = _
  rw [if_pos (by omega), wadd1 (by omega)]
  rfl
theorem spec_blur_ev {wd hg : Nat} {l : List Pix} (hv : Valid wd hg l) (a b c d : Int) : Ev (fun k => spec_l6Each.f k wd hg l 6 a b c d) ((wd : Int), (hg : Int), mk wd hg (blurP l wd hg)) := by
  refine each_ev hv 6 a b c d (blurP l wd hg) ?_
  have hle : wd * hg ≤ 6 * 6 := Nat.mul_le_mul hv.1.2 hv.2.1.2
  have hl := hv.2.2.1
  intro i s r hi hs h
  have hmd := mod_div_lt (show i < wd * hg by omega)
  obtain ⟨K1, h1⟩ := spec_l6Mean_ev l hl hv.1.2 hv.2.1.2 hmd.1 hmd.2
  obtain ⟨K2, h2⟩ := h
  refine ⟨K1 + K2 + 1, fun n hn => ?_⟩
  obtain ⟨m, rfl⟩ : ∃ m, n = m + 1 := ⟨n - 1, by omega⟩
  have e1 := h1 m (by omega)
  have e2 := h2 m (by omega)
  dsimp only at e1 e2 ⊢
  have t1 : Int.tmod (i : Int) (wd : Int) = ((i % wd : Nat) : Int) := rfl
  rw [spec_l6Each.l0, if_pos (by omega), if_neg (by decide), if_pos rfl, if_neg (by have := hv.1.1; omega), t1, wdiv (by omega), e1]
  show (if s.length < 4398046511104 then _ else none) = _
  rw [if_pos (by omega), wadd1 (by omega)]
  exact e2
theorem spec_l6Do_ev {wd hg : Nat} {l : List Pix} (hv : Valid wd hg l) {o : Op} (ho : OkO o) :
    Ev (fun k => spec_l6Do.f k wd hg l o.f0 o.f1 o.f2 o.f3 o.f4) (if hasM o wd hg then ((wideM o wd hg : Int), (highM o wd hg : Int), picM o wd hg l, true) else (0, 0, [], false)) := by
  have hw := hv.1
  have hh := hv.2.1
  have hok := ho
  rcases ho with ⟨h0, b1, b2, b3, b4⟩ | ⟨h0, z1, z2, z3, z4⟩ | ⟨h0, b1, b2, z3, z4⟩ | ⟨h0, b1, b2, b3, z4⟩
  · have e1 : wrap64 (o.f1 + o.f3) = o.f1 + o.f3 := wrap_id (by omega) (by omega)
    have e2 : wrap64 (o.f2 + o.f4) = o.f2 + o.f4 := wrap_id (by omega) (by omega)
    by_cases hm : hasM o wd hg = true
    · have hc := hasM_crop hm h0
      obtain ⟨K, h⟩ := spec_l6Crop_ev hv o h0 hok hm
      refine ⟨K + 1, fun n hn => ?_⟩
      obtain ⟨m, rfl⟩ : ∃ m, n = m + 1 := ⟨n - 1, by omega⟩
      have := h m (by omega)
      dsimp only at this ⊢
      unfold spec_l6Do.f
      rw [if_pos h0, e1, e2, if_neg (by omega), if_pos hm]
      simp only [spec_l6Do.j0]
      rw [if_neg (by simp; omega), this]
      rfl
    · rw [if_neg hm]
      have hm' : ¬ (o.f1 + o.f3 ≤ wd ∧ o.f2 + o.f4 ≤ hg) := by
        intro hc
        apply hm
        unfold hasM
        rw [if_pos h0]
        simp [hc]
      refine ev_succ ⟨0, fun k _ => ?_⟩
      unfold spec_l6Do.f
      dsimp only
      rw [if_pos h0, e1, e2]
      by_cases hx : o.f1 + o.f3 > (wd : Int)
      · rw [if_pos hx]
        simp only [spec_l6Do.j0, if_true]
      · rw [if_neg hx]
        simp only [spec_l6Do.j0]
        rw [if_pos (by simp; omega)]
  · have hm : hasM o wd hg = true := by unfold hasM; rw [if_neg (by omega)]
    obtain ⟨a0, a1, a2, a3, a4⟩ := o
    dsimp only at h0 z1 z2 z3 z4 ⊢
    subst z1 z2 z3 z4
    rw [if_pos hm]
    have : a0 = 2 ∨ a0 = 3 ∨ a0 = 4 ∨ a0 = 5 ∨ a0 = 6 := by omega
    rcases this with rfl | rfl | rfl | rfl | rfl
    · obtain ⟨K, h⟩ := spec_l6FlipX_ev hv
      exact ⟨K, fun n hn => by have := h n hn; dsimp only at this ⊢; unfold spec_l6Do.f; rw [if_neg (by decide), if_pos rfl, this]; rfl⟩
    · obtain ⟨K, h⟩ := spec_l5Flip_ev hv
      exact ⟨K, fun n hn => by have := h n hn; dsimp only at this ⊢; unfold spec_l6Do.f; rw [if_neg (by decide), if_neg (by decide), if_pos rfl, this]; rfl⟩
    · obtain ⟨K, h⟩ := spec_l6Turn_ev hv
      exact ⟨K, fun n hn => by have := h n hn; dsimp only at this ⊢; unfold spec_l6Do.f; rw [if_neg (by decide), if_neg (by decide), if_neg (by decide), if_pos rfl, this]; rfl⟩
    · obtain ⟨K, h⟩ := spec_gray_ev hv 0 0 0 0
      exact ⟨K, fun n hn => by have := h n hn; dsimp only at this ⊢; unfold spec_l6Do.f; rw [if_neg (by decide), if_neg (by decide), if_neg (by decide), if_neg (by decide), if_neg (by decide), this]; rfl⟩
    · obtain ⟨K, h⟩ := spec_blur_ev hv 0 0 0 0
      exact ⟨K, fun n hn => by have := h n hn; dsimp only at this ⊢; unfold spec_l6Do.f; rw [if_neg (by decide), if_neg (by decide), if_neg (by decide), if_neg (by decide), if_neg (by decide), this]; rfl⟩
  · have hm : hasM o wd hg = true := by unfold hasM; rw [if_neg (by omega)]
    obtain ⟨a0, a1, a2, a3, a4⟩ := o
    dsimp only at h0 b1 b2 z3 z4 ⊢
    obtain ⟨A, rfl⟩ : ∃ n : Nat, a1 = n := ⟨a1.toNat, by omega⟩
    obtain ⟨B, rfl⟩ : ∃ n : Nat, a2 = n := ⟨a2.toNat, by omega⟩
    subst h0 z3 z4
    rw [if_pos hm]
    obtain ⟨K, h⟩ := spec_l6Size_ev hv (a := A) (b := B) (by omega) (by omega)
    exact ⟨K, fun n hn => by have := h n hn; dsimp only at this ⊢; unfold spec_l6Do.f; rw [if_neg (by decide), if_neg (by decide), if_neg (by decide), if_neg (by decide), if_pos rfl, this]; rfl⟩
  · have hm : hasM o wd hg = true := by unfold hasM; rw [if_neg (by omega)]
    obtain ⟨a0, a1, a2, a3, a4⟩ := o
    dsimp only at h0 b1 b2 b3 z4 ⊢
    subst h0 z4
    rw [if_pos hm]
    obtain ⟨K, h⟩ := spec_flat_ev hv a1 a2 a3 0
    exact ⟨K, fun n hn => by have := h n hn; dsimp only at this ⊢; unfold spec_l6Do.f; rw [if_neg (by decide), if_neg (by decide), if_neg (by decide), if_neg (by decide), if_neg (by decide), this]; rfl⟩
theorem spec_OpDo_ev (a b : Int) (l : List Pix) (o : Op) : Ev (fun k => spec_OpDo.f k a b l o.f0 o.f1 o.f2 o.f3 o.f4) (doI a b l o) := by
  obtain ⟨K1, h1⟩ := spec_RasOk_ev a b l
  have h2 := spec_OpOk_some o.f0 o.f1 o.f2 o.f3 o.f4
  cases hr : rasOkB a b l with
  | false =>
    refine ⟨K1, fun n hn => ?_⟩
    have := h1 n hn
    dsimp only at this ⊢
    unfold spec_OpDo.f doI
    rw [this, hr]
    rfl
  | true =>
    cases ho : okB o with
    | false =>
      refine ⟨K1, fun n hn => ?_⟩
      have := h1 n hn
      dsimp only at this ⊢
      unfold spec_OpDo.f doI
      rw [this, hr, h2, show opOkB o.f0 o.f1 o.f2 o.f3 o.f4 = false from ho, ho]
      rfl
    | true =>
      obtain ⟨wd, hg, rfl, rfl, hv⟩ := (rasOkB_iff a b l).1 hr
      obtain ⟨K2, h3⟩ := spec_l6Do_ev hv ((okB_iff o).1 ho)
      refine ⟨K1 + K2, fun n hn => ?_⟩
      have e1 := h1 n (by omega)
      have e3 := h3 n (by omega)
      dsimp only at e1 e3 ⊢
      unfold spec_OpDo.f doI
      rw [e1, hr, h2, show opOkB o.f0 o.f1 o.f2 o.f3 o.f4 = true from ho, ho, Int.toNat_natCast, Int.toNat_natCast]
      simp only [Option.bind_some, if_true, e3, Bool.true_and]
theorem doI_len (a b : Int) (l : List Pix) (o : Op) : (doI a b l o).2.2.1.length ≤ 1048576 := by
  unfold doI
  split
  · rename_i h
    simp only [Bool.and_eq_true] at h
    obtain ⟨wd, hg, rfl, rfl, hv⟩ := (rasOkB_iff a b l).1 h.1
    have hd := dims_ok ((okB_iff o).1 h.2.1) hv.1 hv.2.1
    show (picM o _ _ l).length ≤ _
    rw [Int.toNat_natCast, Int.toNat_natCast, picM_length]
    have : wideM o wd hg * highM o wd hg ≤ 6 * 6 := Nat.mul_le_mul hd.1.2 hd.2.2
    omega
  · simp
end Go.Proofs.Ytoifpgkfpdeglaa.X
namespace Go.Proofs.Ytoifpgkfpdeglaa.X
open Go.RowKit Go.Proofs.YtoifpgkfpdeglaaW.PrintWords Go.Proofs.Ytoifpgkfpdeglaa.Pl
set_option linter.unusedSimpArgs false
theorem bits_xor_nonneg (a b : Int) (ha : 0 ≤ a) (ha' : a < 4611686018427387904) (hb : 0 ≤ b) (hb' : b < 4611686018427387904) : 0 ≤ Go.bits .xor .i64 a b ∧ Go.bits .xor .i64 a b < 4611686018427387904 := by
  obtain ⟨m, rfl⟩ := Int.eq_ofNat_of_zero_le ha
  obtain ⟨n, rfl⟩ := Int.eq_ofNat_of_zero_le hb
  have h1 : m < 2 ^ 62 := by omega
  have h2 : n < 2 ^ 62 := by omega
  have hx : m ^^^ n < 2 ^ 62 := Nat.xor_lt_two_pow h1 h2
  have hm : m % 2 ^ 64 = m := Nat.mod_eq_of_lt (by omega)
  have hn : n % 2 ^ 64 = n := Nat.mod_eq_of_lt (by omega)
  have e : Go.bits .xor .i64 (m : Int) (n : Int) = ((m ^^^ n : Nat) : Int) := by
    have hb : (BitVec.ofNat 64 m ^^^ BitVec.ofNat 64 n).toNat = m ^^^ n := by rw [BitVec.toNat_xor, BitVec.toNat_ofNat, BitVec.toNat_ofNat, hm, hn]
    simp only [Go.bits, IntKind.bits, BitVec.ofInt_natCast]
    rw [IntKind.wrap_i64]
    change (((BitVec.ofNat 64 m ^^^ BitVec.ofNat 64 n).toNat : Int) + 9223372036854775808) % 18446744073709551616 - 9223372036854775808 = _
    rw [hb]
    omega
  rw [e]
  omega
def Bytes (l : List Int) : Prop := l.length ≤ 2000 ∧ ∀ y ∈ l, 0 ≤ y ∧ y ≤ 255
theorem bytes_rd {l : List Int} (h : Bytes l) (i : Int) : 0 ≤ rd l i ∧ rd l i ≤ 255 := by
  unfold rd
  by_cases hi : i.toNat < l.length
  · exact h.2 _ (getD_mem l 0 i.toNat hi)
  · rw [List.getD_eq_getElem?_getD, List.getElem?_eq_none (by omega)]
    simp
theorem tmod_bd (a n : Int) (ha : 0 ≤ a) (hn : 0 < n) : 0 ≤ Int.tmod a n ∧ Int.tmod a n < n := by
  rw [Int.tmod_eq_emod_of_nonneg ha]
  exact ⟨Int.emod_nonneg _ (by omega), Int.emod_lt_of_pos _ hn⟩
theorem pick_ev (l : List Int) (hl : Bytes l) (p n : Int) (h0 : 0 ≤ p) (h1 : p ≤ 1000000000000) :
    ∃ r, Ev (fun k => spec_l20Rd_pick.f k l p n) (r, p + 1) ∧ 0 ≤ r ∧ (1 ≤ n → r < n) ∧ (n < 1 → r = 0) := by
  have w1 : wrap64 (p + 1) = p + 1 := wrap_id (by omega) (by omega)
  have w2 : wrap64 (p + 1 - 1) = p := by rw [show p + 1 - 1 = p by omega]; exact wrap_id (by omega) (by omega)
  by_cases hn : n < 1
  · refine ⟨0, ev_succ ⟨0, fun k _ => ?_⟩, by omega, fun h => absurd h (by omega), fun _ => rfl⟩
    simp [spec_l20Rd_pick.f, hn, spec_l20Rd_pick.j0, w1]
  have hne : ¬ (n = 0) := by omega
  by_cases hz : l.length = 0
  · refine ⟨0, ev_succ ⟨0, fun k _ => ?_⟩, by omega, fun h => by omega, fun h => absurd h hn⟩
    simp [spec_l20Rd_pick.f, hn, hz, spec_l20Rd_pick.j0, w1]
  have hz' : ¬ ((l.length : Int) = 0) := by omega
  have hzb : ((l.length : Int) == 0) = false := by simpa using hz
  by_cases hlt : p < (l.length : Int)
  · have hb := bytes_rd hl p
    have w3 : wrap64 (rd l p) = rd l p := wrap_id (by omega) (by omega)
    have ht := tmod_bd (rd l p) n hb.1 (by omega)
    refine ⟨Int.tmod (rd l p) n, ev_succ ⟨0, fun k _ => ?_⟩, ht.1, fun _ => ht.2, fun h => absurd h hn⟩
    simp only [spec_l20Rd_pick.f]
    rw [if_neg hn, hzb, w1]
    simp only [spec_l20Rd_pick.j0]
    rw [if_neg (by decide), w2, if_pos hlt, if_pos h0, if_neg hne, w3]
  · have L0 : (0 : Int) < (l.length : Int) := by omega
    have m1 := tmod_bd p (l.length : Int) h0 L0
    have w4 : wrap64 (p * 7) = p * 7 := wrap_id (by omega) (by omega)
    have w5 : wrap64 (p * 7 + 3) = p * 7 + 3 := wrap_id (by omega) (by omega)
    have m2 := tmod_bd (p * 7 + 3) (l.length : Int) (by omega) L0
    obtain ⟨i1, hi1⟩ : ∃ i, i = Int.tmod p (l.length : Int) := ⟨_, rfl⟩
    obtain ⟨i2, hi2⟩ : ∃ i, i = Int.tmod (p * 7 + 3) (l.length : Int) := ⟨_, rfl⟩
    have b1 := bytes_rd hl i1
    have b2 := bytes_rd hl i2
    obtain ⟨v1, hv1⟩ : ∃ v, v = rd l i1 := ⟨_, rfl⟩
    obtain ⟨v2, hv2⟩ : ∃ v, v = rd l i2 := ⟨_, rfl⟩
    have d1 : 0 ≤ Int.tdiv p (l.length : Int) ∧ Int.tdiv p (l.length : Int) ≤ p := by
      rw [Int.tdiv_eq_ediv_of_nonneg h0]
      exact ⟨Int.ediv_nonneg h0 (by omega), Int.ediv_le_self _ h0⟩
    obtain ⟨q, hq⟩ : ∃ q, q = Int.tdiv p (l.length : Int) := ⟨_, rfl⟩
    rw [← hi1] at m1
    rw [← hi2] at m2
    rw [← hv1] at b1
    rw [← hv2] at b2
    rw [← hq] at d1
    have x1 : wrap64 v1 = v1 := wrap_id (by omega) (by omega)
    have x2 : wrap64 v2 = v2 := wrap_id (by omega) (by omega)
    have x3 : wrap64 (v1 * 131) = v1 * 131 := wrap_id (by omega) (by omega)
    have x4 : wrap64 (v2 * 1117) = v2 * 1117 := wrap_id (by omega) (by omega)
    have x5 : wrap64 (v1 * 131 + v2 * 1117) = v1 * 131 + v2 * 1117 := wrap_id (by omega) (by omega)
    have x6 : wrap64 (p * 29) = p * 29 := wrap_id (by omega) (by omega)
    have x7 : wrap64 (v1 * 131 + v2 * 1117 + p * 29) = v1 * 131 + v2 * 1117 + p * 29 := wrap_id (by omega) (by omega)
    have x8 : wrap64 q = q := wrap_id (by omega) (by omega)
    have x9 : wrap64 (q * 53) = q * 53 := wrap_id (by omega) (by omega)
    have x10 : wrap64 (v1 * 131 + v2 * 1117 + p * 29 + q * 53) = v1 * 131 + v2 * 1117 + p * 29 + q * 53 := wrap_id (by omega) (by omega)
    obtain ⟨s, hs⟩ : ∃ s, s = v1 * 131 + v2 * 1117 + p * 29 + q * 53 := ⟨_, rfl⟩
    have hs0 : 0 ≤ s := by omega
    have hs1 : s ≤ 1000000000000000 := by omega
    have x11 : wrap64 (Int.tdiv s 64) = s / 64 := by
      rw [Int.tdiv_eq_ediv_of_nonneg hs0]
      exact wrap_id (by omega) (by omega)
    have hx := bits_xor_nonneg s (s / 64) hs0 (by omega) (by omega) (by omega)
    have ht := tmod_bd (Go.bits .xor .i64 s (s / 64)) n hx.1 (by omega)
    refine ⟨Int.tmod (Go.bits .xor .i64 s (s / 64)) n, ev_succ ⟨0, fun k _ => ?_⟩, ht.1, fun _ => ht.2, fun h => absurd h hn⟩
    simp only [spec_l20Rd_pick.f]
    rw [if_neg hn, hzb, w1]
    simp only [spec_l20Rd_pick.j0]
    rw [if_neg (by decide), w2, if_neg hlt, if_neg hz', w4, w5, ← hi1, ← hi2, if_pos m1.1, if_pos m1.2, if_pos m2.1, if_pos m2.2, if_neg hne, ← hv1, ← hv2, ← hq]
    simp only [x1, x2, x3, x4, x5, x6, x7, x8, x9, x10]
    rw [← hs, x11]
theorem odd_ev (l : List Int) (hl : Bytes l) (p n : Int) (h0 : 0 ≤ p) (h1 : p ≤ 1000000000000) (hn : n ≤ 1000000) :
    ∃ b q, Ev (fun k => spec_l20Rd_odd.f k l p n) (b, q) ∧ p ≤ q ∧ q ≤ p + 1 ∧ (n ≤ 0 → b = false) := by
  by_cases hn0 : n > 0
  · obtain ⟨r, ⟨K, hr⟩, _, _, _⟩ := pick_ev l hl p n h0 h1
    refine ⟨r == wrap64 (n - 1), p + 1, ⟨K, fun k hk => ?_⟩, by omega, by omega, fun h => absurd h (by omega)⟩
    have := hr k hk
    dsimp only at this
    simp [spec_l20Rd_odd.f, hn0, this]
  · refine ⟨false, p, ⟨0, fun k _ => ?_⟩, by omega, by omega, fun _ => rfl⟩
    simp [spec_l20Rd_odd.f, hn0]
theorem pick_tot {l : List Int} (hl : Bytes l) (p n : Int) (h0 : 0 ≤ p) (h1 : p ≤ 1000000000000) :
    Tot (fun k => spec_l20Rd_pick.f k l p n) (fun x => x.2 = p + 1 ∧ 0 ≤ x.1 ∧ (1 ≤ n → x.1 < n) ∧ (n < 1 → x.1 = 0)) := by
  obtain ⟨r, h, a, b, c⟩ := pick_ev l hl p n h0 h1
  exact ⟨_, h, rfl, a, b, c⟩
theorem odd_tot {l : List Int} (hl : Bytes l) (p n : Int) (h0 : 0 ≤ p) (h1 : p ≤ 1000000000000) (hn : n ≤ 1000000) :
    Tot (fun k => spec_l20Rd_odd.f k l p n) (fun x => p ≤ x.2 ∧ x.2 ≤ p + 1 ∧ (n ≤ 0 → x.1 = false)) := by
  obtain ⟨b, q, h, c⟩ := odd_ev l hl p n h0 h1 hn
  exact ⟨_, h, c⟩
theorem open_some (l : List Int) (hu : ∀ y ∈ l, 0 ≤ y ∧ y ≤ 255) : ∃ b, spec_l20Open.f l = some (b, 0) ∧ Bytes b := by
  unfold spec_l20Open.f
  by_cases h : (l.length : Int) > 2000
  · rw [if_pos h, if_pos (by omega)]
    refine ⟨l.take 2000, rfl, ?_, fun y hy => hu y (List.mem_of_mem_take hy)⟩
    rw [List.length_take]
    omega
  · rw [if_neg h]
    exact ⟨l, rfl, by omega, hu⟩
end Go.Proofs.Ytoifpgkfpdeglaa.X
namespace Go.Proofs.Ytoifpgkfpdeglaa.X
open Go.RowKit Go.Proofs.YtoifpgkfpdeglaaW.PrintWords Go.Proofs.Ytoifpgkfpdeglaa.Pl
set_option linter.unusedSimpArgs false
set_option linter.unusedVariables false
theorem l20Op_j0_tot {l : List Int} (hl : Bytes l) (n p o a b c d : Int) (h0 : 0 ≤ p) (h1 : p ≤ 900000000000) (hn : n ≤ 1000) :
    Tot (fun k => spec_l20Op.j0 k n l p o a b c d) (fun x => p ≤ x.2.2.2.2.2 ∧ x.2.2.2.2.2 ≤ p + 3) := by
  refine Tot.succ ?_
  simp only [spec_l20Op.j0]
  refine Tot.bind (odd_tot hl p n h0 (by omega) (by omega)) ?_
  rintro ⟨b1, p1⟩ ⟨e1, e2, -⟩
  dsimp only at e1 e2 ⊢
  refine Tot.ite ?_ ?_ <;> intro hb
  · refine Tot.bind (pick_tot hl p1 4 (by omega) (by omega)) ?_
    rintro ⟨r2, p2⟩ ⟨e3, e4, e5, -⟩
    dsimp only at e3 e4 e5 ⊢
    refine Tot.ite ?_ ?_ <;> intro h
    all_goals try (refine Tot.ite ?_ ?_ <;> intro h')
    all_goals try (refine Tot.ite ?_ ?_ <;> intro h'')
    all_goals
      refine Tot.some_bind ?_
      refine Tot.bind (pick_tot hl p2 2 (by omega) (by omega)) ?_
      rintro ⟨r3, p3⟩ ⟨e6, e7, e8, -⟩
      dsimp only at e6 e7 e8 ⊢
      refine Tot.pos e7 (Tot.pos ?_ (Tot.ret ?_))
      · simp only [List.length_cons, List.length_nil]; omega
      · dsimp only; omega
  · exact Tot.ret (by dsimp only; omega)
theorem l20Op_tot {l : List Int} (hl : Bytes l) (p n : Int) (h0 : 0 ≤ p) (h1 : p ≤ 800000000000) (hn : n ≤ 1000) :
    Tot (fun k => spec_l20Op.f k l p n) (fun x => p ≤ x.2.2.2.2.2 ∧ x.2.2.2.2.2 ≤ p + 8) := by
  simp only [spec_l20Op.f]
  refine Tot.bind (pick_tot hl p 8 h0 (by omega)) ?_
  rintro ⟨r0, p0⟩ ⟨e1, e2, e3, -⟩
  dsimp only at e1 e2 e3 ⊢
  refine Tot.ite ?_ ?_ <;> intro h
  · refine Tot.bind (pick_tot hl p0 3 (by omega) (by omega)) ?_
    rintro ⟨r4, p4⟩ ⟨e4, -, -, -⟩
    dsimp only at e4 ⊢
    refine Tot.bind (pick_tot hl p4 3 (by omega) (by omega)) ?_
    rintro ⟨r5, p5⟩ ⟨e5, -, -, -⟩
    dsimp only at e5 ⊢
    refine Tot.bind (pick_tot hl p5 4 (by omega) (by omega)) ?_
    rintro ⟨r6, p6⟩ ⟨e6, -, -, -⟩
    dsimp only at e6 ⊢
    refine Tot.bind (pick_tot hl p6 4 (by omega) (by omega)) ?_
    rintro ⟨r7, p7⟩ ⟨e7, -, -, -⟩
    dsimp only at e7 ⊢
    exact (l20Op_j0_tot hl n p7 _ _ _ _ _ (by omega) (by omega) hn).mono (fun x hx => by omega)
  refine Tot.ite ?_ ?_ <;> intro h
  · refine Tot.bind (pick_tot hl p0 6 (by omega) (by omega)) ?_
    rintro ⟨r4, p4⟩ ⟨e4, -, -, -⟩
    dsimp only at e4 ⊢
    refine Tot.bind (pick_tot hl p4 6 (by omega) (by omega)) ?_
    rintro ⟨r5, p5⟩ ⟨e5, -, -, -⟩
    dsimp only at e5 ⊢
    exact (l20Op_j0_tot hl n p5 _ _ _ _ _ (by omega) (by omega) hn).mono (fun x hx => by omega)
  refine Tot.ite ?_ ?_ <;> intro h
  · refine Tot.bind (pick_tot hl p0 256 (by omega) (by omega)) ?_
    rintro ⟨r4, p4⟩ ⟨e4, -, -, -⟩
    dsimp only at e4 ⊢
    refine Tot.bind (pick_tot hl p4 256 (by omega) (by omega)) ?_
    rintro ⟨r5, p5⟩ ⟨e5, -, -, -⟩
    dsimp only at e5 ⊢
    refine Tot.bind (pick_tot hl p5 256 (by omega) (by omega)) ?_
    rintro ⟨r6, p6⟩ ⟨e6, -, -, -⟩
    dsimp only at e6 ⊢
    exact (l20Op_j0_tot hl n p6 _ _ _ _ _ (by omega) (by omega) hn).mono (fun x hx => by omega)
  · exact (l20Op_j0_tot hl n p0 _ _ _ _ _ (by omega) (by omega) hn).mono (fun x hx => by omega)
end Go.Proofs.Ytoifpgkfpdeglaa.X
namespace Go.Proofs.Ytoifpgkfpdeglaa.X
open Go.RowKit Go.Proofs.YtoifpgkfpdeglaaW.PrintWords Go.Proofs.Ytoifpgkfpdeglaa.Pl
set_option linter.unusedSimpArgs false
set_option linter.unusedVariables false
theorem l20Pix_tot {l : List Int} (hl : Bytes l) (p : Int) (h0 : 0 ≤ p) (h1 : p ≤ 900000000000) : Tot (fun k => spec_l20Pix.f k l p) (fun x => p ≤ x.2.2.2.2 ∧ x.2.2.2.2 ≤ p + 10) := by
  simp only [spec_l20Pix.f]
  refine Tot.bind (pick_tot hl p 256 h0 (by omega)) ?_
  rintro ⟨r0, p0⟩ ⟨e0, -, -, -⟩
  dsimp only at e0 ⊢
  refine Tot.some_bind ?_
  refine Tot.bind (pick_tot hl p0 3 (by omega) (by omega)) ?_
  rintro ⟨r1, p1⟩ ⟨e1, a1, b1, -⟩
  dsimp only at e1 a1 b1 ⊢
  refine Tot.pos a1 (Tot.pos (by simp only [List.length_cons, List.length_nil]; omega) ?_)
  refine Tot.bind (pick_tot hl p1 256 (by omega) (by omega)) ?_
  rintro ⟨r2, p2⟩ ⟨e2, -, -, -⟩
  dsimp only at e2 ⊢
  refine Tot.some_bind ?_
  refine Tot.bind (pick_tot hl p2 2 (by omega) (by omega)) ?_
  rintro ⟨r3, p3⟩ ⟨e3, a3, b3, -⟩
  dsimp only at e3 a3 b3 ⊢
  refine Tot.pos a3 (Tot.pos (by simp only [List.length_cons, List.length_nil]; omega) ?_)
  refine Tot.bind (pick_tot hl p3 256 (by omega) (by omega)) ?_
  rintro ⟨r4, p4⟩ ⟨e4, -, -, -⟩
  dsimp only at e4 ⊢
  refine Tot.some_bind ?_
  refine Tot.bind (pick_tot hl p4 2 (by omega) (by omega)) ?_
  rintro ⟨r5, p5⟩ ⟨e5, a5, b5, -⟩
  dsimp only at e5 a5 b5 ⊢
  refine Tot.pos a5 (Tot.pos (by simp only [List.length_cons, List.length_nil]; omega) ?_)
  refine Tot.bind (pick_tot hl p5 256 (by omega) (by omega)) ?_
  rintro ⟨r6, p6⟩ ⟨e6, -, -, -⟩
  dsimp only at e6 ⊢
  refine Tot.some_bind ?_
  refine Tot.bind (pick_tot hl p6 4 (by omega) (by omega)) ?_
  rintro ⟨r7, p7⟩ ⟨e7, a7, b7, -⟩
  dsimp only at e7 a7 b7 ⊢
  refine Tot.pos a7 (Tot.pos (by simp only [List.length_cons, List.length_nil]; omega) (Tot.ret ?_))
  dsimp only
  omega
theorem l20Ras_l0_tot {l : List Int} (hl : Bytes l) (n w h : Int) (hw : 1 ≤ w ∧ w ≤ 6) (hh : 1 ≤ h ∧ h ≤ 6) (hn : n ≤ 1000) (P : Int) (hP : P ≤ 700000000000) : ∀ s : Int × Int × List Pix × Pix, (0 ≤ s.1 ∧ s.1 ≤ w * h ∧ s.2.2.1.length = s.1.toNat ∧ 0 ≤ s.2.1 ∧ s.2.1 + 20 * (w * h - s.1) ≤ P) →
    Tot (fun k => spec_l20Ras.l0 k n s.1 l s.2.1 w h s.2.2.1 s.2.2.2.f0 s.2.2.2.f1 s.2.2.2.f2 s.2.2.2.f3) (fun x => x.2.2.1.length ≤ 100 ∧ 0 ≤ x.2.2.2 ∧ x.2.2.2 ≤ P + 20) := by
  have hm1 : w * h ≤ 36 := by
    have : w * h ≤ 6 * 6 := Int.mul_le_mul hw.2 hh.2 (by omega) (by omega)
    omega
  have hm0 : 1 ≤ w * h := by
    have : (1 : Int) * 1 ≤ w * h := Int.mul_le_mul hw.1 hh.1 (by omega) (by omega)
    omega
  have hwr : wrap64 (w * h) = w * h := wrap_id (by omega) (by omega)
  obtain ⟨m, hm⟩ : ∃ m, m = w * h := ⟨_, rfl⟩
  rw [← hm] at hm0 hm1
  refine tot_ind (fun k (s : Int × Int × List Pix × Pix) => spec_l20Ras.l0 k n s.1 l s.2.1 w h s.2.2.1 s.2.2.2.f0 s.2.2.2.f1 s.2.2.2.f2 s.2.2.2.f3) _ (fun s => (m - s.1).toNat) _ ?_
  rintro ⟨i, p, s, z⟩ ⟨i1, i2, i3, i4, i5⟩ ih
  dsimp only at i1 i2 i3 i4 i5 ⊢
  rw [← hm] at i2 i5
  refine Tot.succ ?_
  simp only [spec_l20Ras.l0, hwr]
  rw [← hm]
  refine Tot.ite ?_ ?_ <;> intro hc
  · have hw1 : wrap64 (i + 1) = i + 1 := wrap_id (by omega) (by omega)
    refine Tot.bind (pick_tot hl p 3 (by omega) (by omega)) ?_
    rintro ⟨r0, p0⟩ ⟨e0, -, -, -⟩
    dsimp only at e0 ⊢
    rw [hw1]
    refine Tot.ite ?_ ?_ <;> intro hd
    · refine Tot.bind (l20Pix_tot hl p0 (by omega) (by omega)) ?_
      rintro ⟨c0, c1, c2, c3, p1⟩ ⟨e1, e2⟩
      dsimp only at e1 e2 ⊢
      refine Tot.pos (by omega) ?_
      exact ih (i + 1, p1, s ++ [⟨c0, c1, c2, c3⟩], ⟨c0, c1, c2, c3⟩) (by dsimp only; rw [← hm, List.length_append]; simp only [List.length_cons, List.length_nil]; omega) (by dsimp only; omega)
    · refine Tot.pos (by omega) ?_
      exact ih (i + 1, p0, s ++ [⟨z.f0, z.f1, z.f2, z.f3⟩], z) (by dsimp only; rw [← hm, List.length_append]; simp only [List.length_cons, List.length_nil]; omega) (by dsimp only; omega)
  · have hi : i = m := by omega
    have hlen : (s.length : Int) = m := by omega
    refine Tot.bind (odd_tot hl p n (by omega) (by omega) (by omega)) ?_
    rintro ⟨b1, p1⟩ ⟨e1, e2, -⟩
    dsimp only at e1 e2 ⊢
    refine Tot.ite ?_ ?_ <;> intro hb
    · refine Tot.bind (pick_tot hl p1 4 (by omega) (by omega)) ?_
      rintro ⟨r2, p2⟩ ⟨e3, -, -, -⟩
      dsimp only at e3 ⊢
      refine Tot.ite ?_ ?_ <;> intro hd
      · refine Tot.some_bind ?_
        refine Tot.bind (pick_tot hl p2 4 (by omega) (by omega)) ?_
        rintro ⟨r3, p3⟩ ⟨e4, a4, b4, -⟩
        dsimp only at e4 a4 b4 ⊢
        exact Tot.pos a4 (Tot.pos (by simp only [List.length_cons, List.length_nil]; omega) (Tot.ret ⟨by dsimp only; omega, by dsimp only; omega, by dsimp only; omega⟩))
      refine Tot.ite ?_ ?_ <;> intro hd
      · refine Tot.some_bind ?_
        refine Tot.bind (pick_tot hl p2 2 (by omega) (by omega)) ?_
        rintro ⟨r3, p3⟩ ⟨e4, a4, b4, -⟩
        dsimp only at e4 a4 b4 ⊢
        exact Tot.pos a4 (Tot.pos (by simp only [List.length_cons, List.length_nil]; omega) (Tot.ret ⟨by dsimp only; omega, by dsimp only; omega, by dsimp only; omega⟩))
      refine Tot.ite ?_ ?_ <;> intro hd
      · exact Tot.pos (by omega) (Tot.ret ⟨by dsimp only; rw [List.length_drop]; omega, by dsimp only; omega, by dsimp only; omega⟩)
      · refine Tot.bind (pick_tot hl p2 (s.length : Int) (by omega) (by omega)) ?_
        rintro ⟨r3, p3⟩ ⟨e4, a4, b4, -⟩
        dsimp only at e4 a4 b4 ⊢
        refine Tot.some_bind ?_
        refine Tot.bind (pick_tot hl p3 2 (by omega) (by omega)) ?_
        rintro ⟨r4, p4⟩ ⟨e5, a5, b5, -⟩
        dsimp only at e5 a5 b5 ⊢
        exact Tot.pos a5 (Tot.pos (by simp only [List.length_cons, List.length_nil]; omega) (Tot.pos a4 (Tot.pos (by omega) (Tot.ret ⟨by dsimp only; rw [List.length_set]; omega, by dsimp only; omega, by dsimp only; omega⟩))))
    · exact Tot.ret ⟨by dsimp only; omega, by dsimp only; omega, by dsimp only; omega⟩
theorem l20Ras_tot {l : List Int} (hl : Bytes l) (p n : Int) (h0 : 0 ≤ p) (h1 : p ≤ 600000000000) (hn : n ≤ 1000) : Tot (fun k => spec_l20Ras.f k l p n) (fun x => x.2.2.1.length ≤ 100 ∧ 0 ≤ x.2.2.2 ∧ x.2.2.2 ≤ p + 1000) := by
  simp only [spec_l20Ras.f]
  refine Tot.bind (pick_tot hl p 6 h0 (by omega)) ?_
  rintro ⟨r0, p0⟩ ⟨e0, a0, b0, -⟩
  dsimp only at e0 a0 b0 ⊢
  refine Tot.bind (pick_tot hl p0 6 (by omega) (by omega)) ?_
  rintro ⟨r1, p1⟩ ⟨e1, a1, b1, -⟩
  dsimp only at e1 a1 b1 ⊢
  refine Tot.bind (l20Pix_tot hl p1 (by omega) (by omega)) ?_
  rintro ⟨c0, c1, c2, c3, p2⟩ ⟨e2, e3⟩
  dsimp only at e2 e3 ⊢
  have w0 : wrap64 (1 + r0) = 1 + r0 := wrap_id (by omega) (by omega)
  have w1 : wrap64 (1 + r1) = 1 + r1 := wrap_id (by omega) (by omega)
  have hm : (1 + r0) * (1 + r1) ≤ 6 * 6 := Int.mul_le_mul (by omega) (by omega) (by omega) (by omega)
  have hm0 : (1 : Int) * 1 ≤ (1 + r0) * (1 + r1) := Int.mul_le_mul (by omega) (by omega) (by omega) (by omega)
  rw [w0, w1]
  exact (l20Ras_l0_tot hl n (1 + r0) (1 + r1) (by omega) (by omega) hn (p2 + 720) (by omega) (0, p2, [], ⟨c0, c1, c2, c3⟩) (by dsimp only [List.length_nil]; revert hm hm0; generalize (1 + r0) * (1 + r1) = q; intro hm hm0; omega)).mono (fun x hx => ⟨hx.1, hx.2.1, by omega⟩)
theorem drawOpDo_tot {l : List Int} (hu : ∀ y ∈ l, 0 ≤ y ∧ y ≤ 255) : Tot (fun k => spec_DrawOpDo.f k l) (fun x => x.2.2.1.length ≤ 100) := by
  simp only [spec_DrawOpDo.f]
  obtain ⟨b, e, hb⟩ := open_some l hu
  rw [e]
  refine Tot.some_bind ?_
  refine Tot.bind (l20Ras_tot hb 0 16 (by omega) (by omega) (by omega)) ?_
  rintro ⟨w, h, s, p⟩ ⟨h1, h2, h3⟩
  dsimp only at h1 h2 h3 ⊢
  refine Tot.bind (l20Op_tot hb p 9 (by omega) (by omega) (by omega)) ?_
  rintro ⟨o, a, b, c, d, q⟩ ⟨-, -⟩
  exact Tot.ret h1
end Go.Proofs.Ytoifpgkfpdeglaa.X
namespace Go.Proofs.Ytoifpgkfpdeglaa.X
open Go.RowKit Go.Proofs.YtoifpgkfpdeglaaW.PrintWords Go.Proofs.Ytoifpgkfpdeglaa.Pl
set_option linter.unusedSimpArgs false
set_option linter.unusedVariables false
theorem eaOk_some : laws_eaOk.f = some true := by
  unfold laws_eaOk.f impl_PixOk.f
  simp [partOk_some]
theorem eaRas_same (a b : Int) (l : List Pix) (hl : l.length ≤ 1048576) : Ev (fun k => laws_eaRas.f k a b l a b l) true := by
  have := ev_all l.length (fun k i => laws_eaRas.l0 k i a b l a b l) ?_ ?_
  · refine Ev.step (fun k => ?_) this
    unfold laws_eaRas.f
    rw [if_pos rfl, if_pos rfl, laws_eaRas.j0, if_neg (by simp)]
  · intro i hi h
    refine Ev.step (fun k => ?_) h
    rw [laws_eaRas.l0, if_pos (by omega), if_pos (by omega), if_pos (by omega), if_neg (by simp), wrap_succ (by omega)]
  · intro k
    rw [laws_eaRas.l0, if_neg (by omega)]
theorem ev_all' (n : Nat) (g : Nat → Int → Option Bool) (hstep : ∀ i, i < n → Ev (fun k => g k ((i + 1 : Nat) : Int)) true → Ev (fun k => g k (i : Int)) true) (hend : Ev (fun k => g k (n : Int)) true) : Ev (fun k => g k 0) true := by
  have : ∀ d j, j + d = n → Ev (fun k => g k (j : Int)) true := by
    intro d
    induction d with
    | zero => intro j hj; have : j = n := by omega
              subst this; exact hend
    | succ d ih => intro j hj; exact hstep j (by omega) (ih (j + 1) (by omega))
  exact this n 0 (by omega)
def eaI : List Op → Int → Int → List Pix → Int × Int × List Pix
  | [], a, b, l => (a, b, l)
  | o :: os, a, b, l => eaI os (doI a b l o).1 (doI a b l o).2.1 (doI a b l o).2.2.1
theorem drop_op {os : List Op} {i : Nat} (hi : i < os.length) : os.drop i = rd_T27 os (i : Int) :: os.drop (i + 1) := by
  rw [List.drop_eq_getElem_cons hi]
  unfold rd_T27
  rw [List.getD_eq_getElem?_getD, Int.toNat_natCast, List.getElem?_eq_getElem hi]
  rfl
theorem eaDo_ev (os : List Op) (hos : os.length ≤ 1000) (a b : Int) (l : List Pix) : Ev (fun k => laws_eaDo.f k a b l os) (eaI os a b l) := by
  have key : ∀ d i, i + d = os.length → ∀ a b l, Ev (fun k => laws_eaDo.l0 k os (i : Int) a b l) (eaI (os.drop i) a b l) := by
    intro d
    induction d with
    | zero =>
      intro i hi a b l
      refine ev_succ ⟨0, fun k _ => ?_⟩
      rw [List.drop_of_length_le (by omega)]
      show laws_eaDo.l0 (k + 1) os (i : Int) a b l = _
      rw [laws_eaDo.l0, if_neg (by omega)]
      rfl
    | succ d ih =>
      intro i hi a b l
      rw [drop_op (show i < os.length by omega)]
      refine Ev.step (fun k => ?_) (ih (i + 1) (by omega) (doI a b l (rd_T27 os (i : Int))).1 (doI a b l (rd_T27 os (i : Int))).2.1 (doI a b l (rd_T27 os (i : Int))).2.2.1)
      rw [laws_eaDo.l0, if_pos (by omega), if_pos (by omega), wrap_succ (by omega)]
      rfl
  exact key os.length 0 (by omega) a b l
theorem eaI_ok {wd hg : Nat} {l : List Pix} (hv : Valid wd hg l) {o : Op} (ho : OkO o) (hm : hasM o wd hg = true) (os : List Op) : eaI (o :: os) wd hg l = eaI os (wideM o wd hg) (highM o wd hg) (picM o wd hg l) := by
  have e : doI wd hg l o = ((wideM o wd hg : Int), (highM o wd hg : Int), picM o wd hg l, true) := by
    unfold doI
    rw [(rasOkB_iff _ _ _).2 ⟨wd, hg, rfl, rfl, hv⟩, (okB_iff o).2 ho, Int.toNat_natCast, Int.toNat_natCast, hm]
    rfl
  show eaI os (doI wd hg l o).1 (doI wd hg l o).2.1 (doI wd hg l o).2.2.1 = _
  rw [e]
theorem doI_yes {a b : Int} {l : List Pix} {o : Op} (h : (doI a b l o).2.2.2 = true) : ∃ wd hg : Nat, a = wd ∧ b = hg ∧ Valid wd hg l ∧ OkO o ∧ hasM o wd hg = true ∧ doI a b l o = ((wideM o wd hg : Int), (highM o wd hg : Int), picM o wd hg l, true) := by
  unfold doI at h
  split at h
  · rename_i hc
    simp only [Bool.and_eq_true] at hc
    obtain ⟨wd, hg, rfl, rfl, hv⟩ := (rasOkB_iff a b l).1 hc.1
    rw [Int.toNat_natCast, Int.toNat_natCast] at hc
    refine ⟨wd, hg, rfl, rfl, hv, (okB_iff o).1 hc.2.1, hc.2.2, ?_⟩
    unfold doI
    rw [hc.1, hc.2.1, Int.toNat_natCast, Int.toNat_natCast, hc.2.2]
    rfl
  · simp at h
theorem okFlat {a b c : Int} (ha : 0 ≤ a ∧ a ≤ 255) (hb : 0 ≤ b ∧ b ≤ 255) (hc : 0 ≤ c ∧ c ≤ 255) : OkO ⟨8, a, b, c, 0⟩ := Or.inr (Or.inr (Or.inr ⟨rfl, ha, hb, hc, rfl⟩))
theorem bytes_wf {l : List Int} (h : ∀ x ∈ l, (Lit.int .u8 x).wf = true) : ∀ y ∈ l, 0 ≤ y ∧ y ≤ 255 := by
  intro y hy
  have := h y hy
  simp [Lit.wf, IntKind.min, IntKind.max, IntKind.signed, IntKind.bits] at this
  omega
end Go.Proofs.Ytoifpgkfpdeglaa.X
namespace Go.Proofs.Ytoifpgkfpdeglaa.Pure
open Go.RowKit Go.Proofs.YtoifpgkfpdeglaaW.PrintWords Go.Proofs.Ytoifpgkfpdeglaa.Pl Go.Proofs.Ytoifpgkfpdeglaa.X
set_option linter.unusedSimpArgs false
set_option linter.unusedVariables false
def bare (p : Pix) : Pix := ⟨p.f0, p.f1, p.f2, 0⟩
theorem map_line (l : List Pix) (g : Nat → Nat → List Pix → Option Bool) (hn : l.length ≤ 10000)
    (hstep : ∀ i s r, i < l.length → s.length = i → Ev (fun k => g k (i + 1) (s ++ [bare (rd_T36 l (i : Int))])) r → Ev (fun k => g k i s) r)
    (hend : Ev (fun k => g k l.length (l.map bare)) true) : Ev (fun k => g k 0 []) true := by
  refine ev_line l.length (fun i : Nat => bare (rd_T36 l (i : Int))) g true hn hstep ?_
  have e : ((List.range l.length).map fun i : Nat => bare (rd_T36 l (i : Int))) = l.map bare := by
    apply List.ext_getElem?
    intro i
    by_cases hi : i < l.length
    · rw [List.getElem?_map, List.getElem?_range hi, List.getElem?_map, List.getElem?_eq_getElem hi]
      show some (bare (rd_T36 l (i : Int))) = some (bare l[i])
      unfold rd_T36
      rw [List.getD_eq_getElem?_getD, Int.toNat_natCast, List.getElem?_eq_getElem hi]
      rfl
    · rw [List.getElem?_eq_none (by simp; omega), List.getElem?_eq_none (by simp; omega)]
  rw [e]
  exact hend
theorem rd_mem {l : List Pix} {i : Nat} (hi : i < l.length) : rd_T36 l (i : Int) ∈ l := by
  unfold rd_T36
  rw [List.getD_eq_getElem?_getD, Int.toNat_natCast, List.getElem?_eq_getElem hi]
  exact List.getElem_mem hi
theorem FnOpCover : laws_FnOpCover.Pure := by
  intro l0 _ _ hwf
  have hu := bytes_wf hwf
  by_cases hlen : (l0.length : Int) > 1048576
  · exact ⟨0, by unfold laws_FnOpCover.f; rw [if_pos hlen]⟩
  obtain ⟨⟨a, b, l, o0, o1, o2, o3, o4⟩, ⟨K0, h0⟩, hl100⟩ := drawOpDo_tot hu
  dsimp only at h0 hl100
  obtain ⟨K1, h1⟩ := spec_OpDo_ev a b l ⟨o0, o1, o2, o3, o4⟩
  obtain ⟨K2, h2⟩ := eaRas_same (doI a b l ⟨o0, o1, o2, o3, o4⟩).1 (doI a b l ⟨o0, o1, o2, o3, o4⟩).2.1 (doI a b l ⟨o0, o1, o2, o3, o4⟩).2.2.1 (doI_len a b l ⟨o0, o1, o2, o3, o4⟩)
  dsimp only at h1 h2
  have hi : impl_OpDo.f a b l o0 o1 o2 o3 o4 = some (doI a b l ⟨o0, o1, o2, o3, o4⟩) := rfl
  suffices hs : Ev (fun k => laws_FnOpCover.j0 k (doI a b l ⟨o0, o1, o2, o3, o4⟩).2.2.2 false a b l o0 o1 o2 o3 o4) true by
    obtain ⟨K3, h3⟩ := hs
    refine ⟨K0 + K1 + K2 + K3, ?_⟩
    have h3' := h3 (K0 + K1 + K2 + K3) (by omega)
    dsimp only at h3'
    unfold laws_FnOpCover.f
    rw [if_neg hlen, h0 _ (by omega)]
    simp only [Option.bind_some]
    rw [hi]
    simp only [Option.bind_some]
    rw [h1 _ (by omega)]
    simp only [Option.bind_some]
    rw [h2 _ (by omega)]
    simp only [Option.bind_some, if_true, bne_self_eq_false]
    exact h3'
  cases hy : (doI a b l ⟨o0, o1, o2, o3, o4⟩).2.2.2 with
  | false =>
    refine ev_succ ⟨0, fun k _ => ?_⟩
    show laws_FnOpCover.j0 (k + 1) false false a b l o0 o1 o2 o3 o4 = _
    rw [laws_FnOpCover.j0, if_neg (by decide), if_neg (by decide), eaOk_some]
    rfl
  | true =>
    obtain ⟨wd, hg, rfl, rfl, hv, ho, hm, -⟩ := doI_yes hy
    have hFl : OkO ⟨8, 0, 0, 0, 0⟩ := okFlat (by omega) (by omega) (by omega)
    have hvF := valid_picM hFl hv rfl
    have hvF' : Valid wd hg (picM ⟨8, 0, 0, 0, 0⟩ wd hg l) := hvF
    have e1 : eaI [⟨8, 0, 0, 0, 0⟩, ⟨o0, o1, o2, o3, o4⟩] wd hg l = ((wideM ⟨o0, o1, o2, o3, o4⟩ wd hg : Int), (highM ⟨o0, o1, o2, o3, o4⟩ wd hg : Int), picM ⟨o0, o1, o2, o3, o4⟩ wd hg (picM ⟨8, 0, 0, 0, 0⟩ wd hg l)) := by
      rw [eaI_ok hv hFl rfl]
      exact eaI_ok hvF' ho hm []
    obtain ⟨Y, hY⟩ : ∃ Y, Y = picM ⟨o0, o1, o2, o3, o4⟩ wd hg (picM ⟨8, 0, 0, 0, 0⟩ wd hg l) := ⟨_, rfl⟩
    have hYa : ∀ p ∈ Y, p.f3 = 255 := by
      rw [hY]
      refine alpha_keep ho hv.1.1 hv.2.1.1 hvF'.2.2.1 hm (by omega) ?_ (Or.inr rfl)
      intro p hp
      obtain ⟨x, y, _, _, rfl⟩ := picM_mem hp
      rfl
    have hvb : Valid wd hg (l.map bare) := ⟨hv.1, hv.2.1, by rw [List.length_map]; exact hv.2.2.1, fun p hp => by
      obtain ⟨q, hq, rfl⟩ := List.mem_map.1 hp
      have := hv.2.2.2 q hq
      exact ⟨this.1, this.2.1, this.2.2.1, show (0 : Int) ≤ 0 by decide, show (0 : Int) ≤ 255 by decide⟩⟩
    have e2 : eaI [⟨o0, o1, o2, o3, o4⟩] wd hg (l.map bare) = ((wideM ⟨o0, o1, o2, o3, o4⟩ wd hg : Int), (highM ⟨o0, o1, o2, o3, o4⟩ wd hg : Int), picM ⟨o0, o1, o2, o3, o4⟩ wd hg (l.map bare)) := eaI_ok hvb ho hm []
    obtain ⟨Z, hZ⟩ : ∃ Z, Z = picM ⟨o0, o1, o2, o3, o4⟩ wd hg (l.map bare) := ⟨_, rfl⟩
    have hZa : o0 ≠ 8 → ∀ p ∈ Z, p.f3 = 0 := by
      intro h8
      rw [hZ]
      refine alpha_keep ho hv.1.1 hv.2.1.1 hvb.2.2.1 hm (by omega) ?_ (Or.inl h8)
      intro p hp
      obtain ⟨q, _, rfl⟩ := List.mem_map.1 hp
      rfl
    have hYl : Y.length = wideM ⟨o0, o1, o2, o3, o4⟩ wd hg * highM ⟨o0, o1, o2, o3, o4⟩ wd hg := by rw [hY]; exact picM_length _ _ _ _
    have hZl : Z.length = wideM ⟨o0, o1, o2, o3, o4⟩ wd hg * highM ⟨o0, o1, o2, o3, o4⟩ wd hg := by rw [hZ]; exact picM_length _ _ _ _
    have hd := dims_ok ho hv.1 hv.2.1
    have hle : wideM ⟨o0, o1, o2, o3, o4⟩ wd hg * highM ⟨o0, o1, o2, o3, o4⟩ wd hg ≤ 6 * 6 := Nat.mul_le_mul hd.1.2 hd.2.2
    rw [← hY] at e1
    rw [← hZ] at e2
    obtain ⟨W, hW⟩ : ∃ W : Int, W = (wideM ⟨o0, o1, o2, o3, o4⟩ wd hg : Int) := ⟨_, rfl⟩
    obtain ⟨H, hH⟩ : ∃ H : Int, H = (highM ⟨o0, o1, o2, o3, o4⟩ wd hg : Int) := ⟨_, rfl⟩
    rw [← hW, ← hH] at e1 e2
    have t2 : Ev (fun k => laws_FnOpCover.l2 k 0 o0 o1 o2 o3 o4 W H Y W H Z) true := by
      refine ev_all Z.length (fun k i => laws_FnOpCover.l2 k i o0 o1 o2 o3 o4 W H Y W H Z) ?_ ?_
      · intro i hi h
        refine Ev.step (fun k => ?_) h
        rw [laws_FnOpCover.l2, if_pos (by omega)]
        by_cases h8 : o0 = 8
        · rw [if_pos h8, wrap_succ (by omega)]
        · rw [if_neg h8, if_pos (by omega), if_pos (hZa h8 _ (rd_mem hi)), wrap_succ (by omega)]
      · intro k
        rw [laws_FnOpCover.l2, if_neg (by omega)]
        simp [hYl, hZl]
    have t1 : Ev (fun k => laws_FnOpCover.l1 k 0 wd hg l o0 o1 o2 o3 o4 W H Y wd hg []) true := by
      refine map_line l (fun k i s => laws_FnOpCover.l1 k i wd hg l o0 o1 o2 o3 o4 W H Y wd hg s) (by omega) ?_ ?_
      · intro i s r hi hs h
        refine Ev.step (fun k => ?_) h
        rw [laws_FnOpCover.l1, if_pos (by omega), if_pos (by omega), if_pos (by omega), wrap_succ (by omega)]
        rfl
      · obtain ⟨K4, h4⟩ := eaDo_ev [⟨o0, o1, o2, o3, o4⟩] (by simp) wd hg (l.map bare)
        obtain ⟨K5, h5⟩ := t2
        refine ⟨K4 + K5 + 1, fun n hn => ?_⟩
        obtain ⟨m, rfl⟩ : ∃ m, n = m + 1 := ⟨n - 1, by omega⟩
        have q4 := h4 m (by omega)
        have q5 := h5 m (by omega)
        dsimp only at q4 q5 ⊢
        rw [laws_FnOpCover.l1, if_neg (by omega), q4, e2]
        exact q5
    have t0 : Ev (fun k => laws_FnOpCover.l0 k 0 wd hg l o0 o1 o2 o3 o4 W H Y) true := by
      refine (fun h => ev_all' Y.length (fun k i => laws_FnOpCover.l0 k i wd hg l o0 o1 o2 o3 o4 W H Y) ?_ h) ?_
      · intro i hi h
        refine Ev.step (fun k => ?_) h
        rw [laws_FnOpCover.l0, if_pos (by omega), if_pos (by omega), if_pos (hYa _ (rd_mem hi)), wrap_succ (by omega)]
      · refine Ev.step (fun k => ?_) t1
        rw [laws_FnOpCover.l0, if_neg (by omega)]
    obtain ⟨K6, h6⟩ := eaDo_ev [⟨8, 0, 0, 0, 0⟩, ⟨o0, o1, o2, o3, o4⟩] (by simp) wd hg l
    obtain ⟨K7, h7⟩ := t0
    refine ⟨K6 + K7 + 1, fun n hn => ?_⟩
    obtain ⟨m, rfl⟩ : ∃ m, n = m + 1 := ⟨n - 1, by omega⟩
    have q6 := h6 m (by omega)
    have q7 := h7 m (by omega)
    dsimp only at q6 q7 ⊢
    rw [laws_FnOpCover.j0, if_neg (by decide), if_pos rfl, q6, e1]
    exact q7
end Go.Proofs.Ytoifpgkfpdeglaa.Pure
