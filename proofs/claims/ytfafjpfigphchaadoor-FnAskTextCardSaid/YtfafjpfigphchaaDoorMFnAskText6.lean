/- Lemmas and contracts for the law FnAskText, part 6: of the program's functions, and over data alone. Conditions: the listed package-level variables begin as the program's text lays them (tied by the card). -/
import Derived.Test.YtfafjpfigphchaaDoorMFnAskText2
import Derived.Test.YtfafjpfigphchaaDoorMFnAskText3
import Derived.Test.YtfafjpfigphchaaDoorMFnAskText5
import Derived.Test.YtfafjpfigphchaaDoorMFnAskText4
import Derived.Test.YtfafjpfigphchaaDoorMFnAskText1
import Derived.Lib.IndexBytes
import Derived.Lib.Bytes
import Derived.SizedLaws
import Derived.Handed
import Derived.Shelf.Vars
import Derived.Test.YtfafjpfigphchaaDoorRows
import Derived.Lib.LaidTab
import Derived.LaidMore
import Derived.OpenShut
import Derived.ShutString
import Derived.ChangeOld
import Derived.ChangeSame
import Derived.Below
import Derived.WalkKit
import Derived.ProofKit
import Derived.Stop.Joined
import Derived.OpenVars
import Derived.KernelRfl
import Derived.LaidSub
import Derived.Lay
import Derived.LaidOnce
namespace Go.Proofs.YtfafjpfigphchaaDoor.X
open Go.RowKit Go.Proofs.YtfafjpfigphchaaDoorW.PrintWords Go.Proofs.YtfafjpfigphchaaDoorW.PrintLast Go.Proofs.YtfafjpfigphchaaDoorW.PrintMore
attribute [local go_sem] max2_int min2_int max_two min_two max_three min_three max_four min_four
set_option linter.unusedVariables false
set_option linter.unusedSimpArgs false

section
open Go.Proofs.YtfafjpfigphchaaDoorW.PrintWords.Aside0 renaming mk → yaa
open Go.Proofs.YtfafjpfigphchaaDoorW.PrintWords renaming pw_below_drewN → yab, blk_cell → yad, below_drew1 → yae, blk_below → yaf, below_alloc → yag, below_set → yaj, below_step → yal, Aside0 → yas, blk_far → yau
open Go.Proofs.YtfafjpfigphchaaDoorW.PrintWords.Kd renaming R_below → yac, R_far → yah, R_reads' → yai, R_drew → yak, R_alloc → yam, R_drewN → yan, R_types → yao, R_mono → yap, C_alloc → yaq, C_drewN → yar, C_drew → yat

abbrev q6_0 : Array Bool := Array.replicate 22 false
abbrev q6_1 : Array Bool := bl_ 22 1
abbrev q6_2 : Array Bool := bl_ 22 3
abbrev q6_3 : Array Bool := bl_ 22 7
abbrev q6_4 : Array Bool := bl_ 22 15
abbrev q6_5 : Array Bool := bl_ 22 31
abbrev q6_6 : Array Bool := bl_ 22 63
abbrev q6_7 : Array Bool := bl_ 22 127
abbrev q6_8 : Array Bool := bl_ 22 255
abbrev q6_9 : Array Bool := bl_ 22 511
abbrev q6_10 : Array Bool := bl_ 22 1023
abbrev q6_11 : Array Bool := bl_ 22 2047
abbrev q6_12 : Array Bool := bl_ 22 4095
abbrev q6_13 : Array Bool := bl_ 22 8191
abbrev q6_14 : Array Bool := bl_ 22 16383
abbrev q6_15 : Array Bool := bl_ 22 32767
abbrev q6_16 : Array Bool := bl_ 22 65535
abbrev q6_17 : Array Bool := bl_ 22 131071
abbrev q6_18 : Array Bool := bl_ 22 262143
abbrev q6_19 : Array Bool := bl_ 22 524287
abbrev q6_20 : Array Bool := bl_ 22 1048575
abbrev q6_21 : Array Bool := bl_ 22 2097151
abbrev q6_22 : Array Bool := bl_ 22 4194303
abbrev q6_23 : Array Bool := bl_ 22 393215
mutual
def laws_FnAskText.j0 : Nat → List Int → List Int → Bool → Option (Bool)
 | 0, _, _, _ => none
 | k + 1, x0, x1, x21 => if x21 = true then (some true) else ((spec_DrawAskText.f k x0).bind fun bt101 => ((spec_DrawAskRead.f k x1).bind fun t107 => ((impl_AskText.f k bt101.1 bt101.2.1 bt101.2.2).bind fun t108 => ((impl_AskRead.f k t107).bind fun bt109 => ((spec_AskRead.f k t107).bind fun bt116 => ((spec_AskText.f k bt101.1 bt101.2.1 bt101.2.2).bind fun t123 => (if t108.toList = t123.toList then ((laws_eaAsk.f k bt109.1 bt109.2.1 bt109.2.2.1 bt116.1 bt116.2.1 bt116.2.2.1).bind fun t124 => (if t124 = true then (if (bt109.2.2.2 != bt116.2.2.2) = true then (laws_FnAskText.j1 k t107 t108 bt109.2.2.2 true bt101.1 bt101.2.1 bt101.2.2 bt109.1 bt109.2.1 bt109.2.2.1) else ((impl_AskOk.f k bt101.1 bt101.2.1 bt101.2.2).bind fun t125 => ((spec_AskOk.f k bt101.1 bt101.2.1 bt101.2.2).bind fun t126 => (laws_FnAskText.j1 k t107 t108 bt109.2.2.2 (t125 != t126) bt101.1 bt101.2.1 bt101.2.2 bt109.1 bt109.2.1 bt109.2.2.1)))) else (laws_FnAskText.j1 k t107 t108 bt109.2.2.2 true bt101.1 bt101.2.1 bt101.2.2 bt109.1 bt109.2.1 bt109.2.2.1))) else (laws_FnAskText.j1 k t107 t108 bt109.2.2.2 true bt101.1 bt101.2.1 bt101.2.2 bt109.1 bt109.2.1 bt109.2.2.1))))))))
def laws_FnAskText.j1 : Nat → ByteArray → ByteArray → Bool → Bool → List (S23) → ByteArray → Int → List (S23) → ByteArray → Int → Option (Bool)
 | 0, _, _, _, _, _, _, _, _, _, _ => none
 | k + 1, x6, x7, x9, x59, x107000, x107001, x107002, x116000, x116001, x116002 => if x59 = true then (some false) else (if x9 = true then ((impl_AskOk.f k x116000 x116001 x116002).bind fun t127 => (if t127 = true then ((impl_AskText.f k x116000 x116001 x116002).bind fun t128 => (if t128.toList = x6.toList then (laws_FnAskText.j2 k x6 x7 x9 false x107000 x107001 x107002 x116000 x116001 x116002) else (laws_FnAskText.j2 k x6 x7 x9 true x107000 x107001 x107002 x116000 x116001 x116002))) else (laws_FnAskText.j2 k x6 x7 x9 true x107000 x107001 x107002 x116000 x116001 x116002))) else (laws_FnAskText.j2 k x6 x7 x9 (x116001.toList != ([] : List UInt8)) x107000 x107001 x107002 x116000 x116001 x116002))
def laws_FnAskText.j2 : Nat → ByteArray → ByteArray → Bool → Bool → List (S23) → ByteArray → Int → List (S23) → ByteArray → Int → Option (Bool)
 | 0, _, _, _, _, _, _, _, _, _, _ => none
 | k + 1, x6, x7, x9, x80, x107000, x107001, x107002, x116000, x116001, x116002 => if x80 = true then (some false) else ((spec_AskOk.f k x107000 x107001 x107002).bind fun t129 => (if t129 = true then ((impl_AskRead.f k x7).bind fun bt130 => (if bt130.2.2.2 = true then ((laws_eaAsk.f k bt130.1 bt130.2.1 bt130.2.2.1 x107000 x107001 x107002).bind fun t137 => (if t137 = true then (if x9 = true then ((laws_eaAsk.f k x107000 x107001 x107002 x116000 x116001 x116002).bind fun t138 => (some ((x7.toList == x6.toList) == t138))) else (some true)) else (some false))) else (some false))) else (if x7.toList = ([] : List UInt8) then ((laws_eaOk.f).bind fun t139 => (some t139)) else (some false))))
end
def laws_FnAskText.f (k : Nat) (l0 : List Int) (l1 : List Int) : Option (Bool) := if (l0.length : Int) > 1048576 then (laws_FnAskText.j0 k l0 l1 true) else (laws_FnAskText.j0 k l0 l1 (decide ((l1.length : Int) > 1048576)))
def laws_FnAskText.T8 : Bool × List (List Nat × List Nat) := (true, [([], []), ([], []), ([1], [1]), ([0, 2], [0, 2]), ([3, 2], [3]), ([4], [4]), ([4], [4]), ([5, 6, 4, 4], [4, 5, 6]), ([7, 4], [4, 7]), ([4, 8], [4, 8]), ([9, 7], [9]), ([10], [10]), ([10], [10]), ([11, 12, 10], [10, 11, 12]), ([10, 13], [10, 13]), ([14, 10], [14]), ([15], [15]), ([16, 15, 15], [15, 16]), ([15], [15]), ([18, 17, 15], [15, 18]), ([17, 19, 15], [15, 17, 19]), ([15, 20], [15, 20])])
def laws_FnAskText.B8 : List Nat := [0, 0, 2, 7, 15, 31, 31, 127, 255, 511, 1023, 2047, 2047, 8191, 16383, 32767, 65535, 131071, 65535, 524287, 1048575, 2097151]
theorem laws_FnAskText.tab8 : rtab .any (opsOf Tryd.f6 8) = laws_FnAskText.T8 := by kernel_rfl
theorem laws_FnAskText.bits8 : waitsOk laws_FnAskText.T8.2 laws_FnAskText.B8 = true := by kernel_rfl
set_option maxHeartbeats 8000000 in
set_option maxRecDepth 100000 in
theorem laws_FnAskText.calls (k : Nat) (A0 : Option Addr) (c0 : Nat) (l0 : List Int) (A1 : Option Addr) (c1 : Nat) (l1 : List Int) (r : Bool) (w : World) (hr0 : Kd.C (Kd.int .u8) w A0 l0.length l0) (hc0 : l0.length ≤ c0) (hr1 : Kd.C (Kd.int .u8) w A1 l1.length l1) (hc1 : l1.length ≤ c1) (h : laws_FnAskText.f k l0 l1 = some r) (hrt : r = true) (hG : Glob w) :
  Calls Tryd.prog 6 #[.slice A0 l0.length c0, .slice A1 l1.length c1] w fun e w' => e = .returned (.bool r) ∧ Below w.heap.size w w' := by
 have HG := yaa hG; clear hG; have hu37 := Tryd.underlying37; have HR0 := yaa hr0; have HC0 := yaa hc0; clear hr0 hc0; have HR1 := yaa hr1; have HC1 := yaa hc1; clear hr1 hc1; have HB := yaa (Below.refl w.heap.size w); have H : (if (l0.length : Int) > 1048576 then (laws_FnAskText.j0 k l0 l1 true) else (laws_FnAskText.j0 k l0 l1 (decide ((l1.length : Int) > 1048576)))) = some r := h; clear h; have HC3 := yaa H; clear H
 go_enter Tryd.func6, Tryd.ntmps6
 go_upto_region 1 with (fail)
 go_cut [21] (fun v21 wc => ∃ (kq : Nat) (h3 : Bool), v21 = .bool h3 ∧ yas (laws_FnAskText.j0 kq l0 l1 h3 = some r) ∧ yas (kq ≤ k) ∧ yas (Below w.heap.size w wc))
 case first =>
  have H := HC3.out; clear HC3
  by_cases c4 : (l0.length : Int) > 1048576
  ·
   rw [if_pos c4] at H
   have h4 : decide (1048576 < (l0.length : Int)) = true := decide_eq_true c4; have m3 : decide (1048576 < l0.length) = true := decide_eq_true (by omega); clear c4
   (first | rw [h4] | (simp only [i64_w, i32_w]; rw [h4]) | skip)
   have H' := yaa H; clear H
   go_wp2
   go_meet
   case rel => exact ⟨_, (true), (by first | rfl | (simp; done) | (simp [*]; done)), H', ⟨by first | omega | exact Nat.le_refl _⟩, ⟨upH HB.out⟩⟩
  ·
   rw [if_neg c4] at H
   have h4 : decide (1048576 < (l0.length : Int)) = false := decide_eq_false c4; have m3 : decide (1048576 < l0.length) = false := decide_eq_false (by omega); clear c4
   (first | rw [h4] | (simp only [i64_w, i32_w]; rw [h4]) | skip)
   have H' := yaa H; clear H
   go_wp2
   go_meet
   case rel => exact ⟨_, (decide ((l1.length : Int) > 1048576)), (by first | rfl | (simp; done) | (simp [*]; done)), H', ⟨by first | omega | exact Nat.le_refl _⟩, ⟨upH HB.out⟩⟩
 case rest =>
  clear HC3; (try clear c1); (try clear p2); (try clear c4); (try clear h4); (try clear m3); obtain ⟨kq, h3, rfl, HA, HJ2, HB⟩ := hcut
  cases kq with
  | zero => exact absurd HA.out (by simp [laws_FnAskText.j0])
  | succ kj2 =>
   have H := HA.out; clear HA
   simp only [laws_FnAskText.j0] at H
   by_cases c5 : h3 = true
   ·
    subst c5
    rw [if_pos rfl] at H
    obtain rfl := Option.some.inj H
    go_wp2
    go_ret
    exact ⟨by first | rfl | (simp [*, errW_none, errW_some] <;> rfl), upH HB.out⟩
   ·
    replace c5 := Bool.eq_false_iff.mpr c5
    subst c5
    rw [if_neg (show ¬ (false = true) by decide)] at H
    obtain ⟨⟨b2, d4, d5⟩, A6, H⟩ := bindA H; (try dsimp only at H); obtain ⟨g9, A7, H⟩ := bindA H; (try dsimp only at H); obtain ⟨g4, A8, H⟩ := bindA H; (try dsimp only at H); obtain ⟨⟨b7, e0, e1, f5⟩, A9, H⟩ := bindA H; (try dsimp only at H); obtain ⟨⟨b4, d6, d9, g5⟩, A10, H⟩ := bindA H; (try dsimp only at H); have HC11 := yaa H; clear H
    go_upto_region 8 with (first | ((with_reducible refine gc_ 22 rfl ?_); refine gl_ (some 23) rfl Tryd.func22 #[.slice A0 l0.length c0] ?_; (with_reducible refine (spec_DrawAskText.calls kj2 _ _ l0 b2 d4 d5 _ ?side1 ?side2 A6.out).mono ?_); (case side1 => repeat (first | exact (Kd.C_below HR0.out HB.out) | (with_reducible refine yaq ?_ _) | (with_reducible refine yar ?_ _) | (with_reducible refine yat ?_))); (case side2 => exact HC0.out); rintro e w12 ⟨E5, rfl, ho0, hb⟩; refine ⟨_, rfl, ?_⟩; have a8 := yaa (Kd.R_lower ho0 (below_size (upH HB.out))); replace HB := yaa (yal (upH HB.out) hb); (try clear hb ho0)) | ((with_reducible refine gd_ 5 rfl ?_); (try (refine gate_guard (by rfl) ?_; dsimp only)); refine bx_ 5 rfl #[.slice none 0 0, .string (⟨#[]⟩ : ByteArray), .int .i64 0] 37 ?_; intro d1 hg w13 hbox hb; replace a8 := yaa (yac (upR a8.out) hb); have a2 := yaa (hbox); have m4 := yaa ((by rw [hg]; exact (below_size (upH HB.out)) : w.heap.size ≤ d1)); replace HB := yaa (yal (upH HB.out) hb); have A4 := m4; clear hb hbox hg; obtain ⟨d0, c9, v4⟩ := Kd.R_slice a8.out; subst v4; obtain ⟨r7, r8, r9⟩ := cc3_ a2.out; obtain ⟨s0, s1⟩ := cf2_ a2.out; have s2 := blk_frozen a2.out 2) | ((with_reducible refine gc_ 23 rfl ?_); refine gl_ (some 25) rfl Tryd.func23 #[.slice A1 l1.length c1] ?_; (with_reducible refine (spec_DrawAskRead.calls kj2 _ _ l1 g9 _ ?side1 ?side2 A7.out).mono ?_); (case side1 => exact Kd.C_below HR1.out (by repeat (with_reducible first | exact HB.out | apply yag | apply yab | apply yae | refine yaj ?_ (Aside0.out ‹_›)))); (case side2 => exact HC1.out); rintro e w16 ⟨rfl, hb⟩; refine ⟨_, rfl, ?_⟩; replace a8 := yaa (yac (by (with_reducible repeat (first | apply yam | apply yan | apply yak)); exact (yap (yah (p := ⟨d1, 2, none⟩) (yah (p := ⟨d1, 1, none⟩) (yah (p := ⟨d1, 0, none⟩) (yao a8.out a2.out (by decide)) (fun _ hk => hk.2) (.slice d0 b2.length c9)) (fun _ hk => hk.2) (.string d4)) (fun _ hk => hk.2) (.int .i64 d5)) (fun _ h_ => h_.1))) hb); replace a2 := yaa (yaf (g := d1) (o := .cells #[.slice d0 b2.length c9, .string d4, .int .i64 d5] 37 (0, 0)) (by (repeat refine oneB ?_); refine blk_put (cs := #[.slice d0 b2.length c9, .string d4, .int .i64 0]) ?_ 2 _ rfl; refine blk_put (cs := #[.slice d0 b2.length c9, .string (⟨#[]⟩ : ByteArray), .int .i64 0]) ?_ 1 _ rfl; refine blk_put (cs := #[.slice none 0 0, .string (⟨#[]⟩ : ByteArray), .int .i64 0]) ?_ 0 _ rfl; exact upB a2.out) hb); replace HB := yaa (yal (by repeat (with_reducible first | exact HB.out | apply yag | apply yab | apply yae | refine yaj ?_ (Aside0.out ‹_›))) hb); (try clear hb); obtain ⟨s3, s4, s5⟩ := cc3_ a2.out; obtain ⟨s6, s7⟩ := cf2_ a2.out; have s8 := blk_frozen a2.out 2) | ((with_reducible refine gc_ 24 rfl ?_); refine gl_ (some 27) rfl Tryd.func24 #[.agg #[.slice d0 b2.length c9, .string d4, .int .i64 d5]] ?_; (with_reducible refine (impl_AskText.calls kj2 _ _ b2 d4 d5 g4 _ ?side1 ?side2 A8.out ?sideG).mono ?_); (case sideG => exact Glob.belowW HG.out (by repeat (first | (with_reducible first | exact HB.out | apply yag | apply yab | apply yae | refine yaj ?_ (Aside0.out ‹_›)) | exact HB.out | exact Below.refl _ _))); (case side1 => repeat (first | exact (yai a8.out).2.2 | (with_reducible refine yaq ?_ _) | (with_reducible refine yar ?_ _) | (with_reducible refine yat ?_))); (case side2 => exact (yai a8.out).2.1); rintro e w18 ⟨rfl, hb⟩; refine ⟨_, rfl, ?_⟩; replace a8 := yaa (yac (upR a8.out) hb); replace a2 := yaa (yaf (upB a2.out) hb); replace HB := yaa (yal (by repeat (with_reducible first | exact HB.out | apply yag | apply yab | apply yae | refine yaj ?_ (Aside0.out ‹_›))) hb); (try clear hb)) | ((with_reducible refine gc_ 18 rfl ?_); refine gl_ (some 30) rfl Tryd.func18 #[.string g9] ?_; (with_reducible refine (impl_AskRead.calls kj2 g9 b7 e0 e1 f5 _ A9.out ?sideG).mono ?_); (case sideG => exact Glob.belowW HG.out (by repeat (first | (with_reducible first | exact HB.out | apply yag | apply yab | apply yae | refine yaj ?_ (Aside0.out ‹_›)) | exact HB.out | exact Below.refl _ _))); rintro e w19 ⟨E6, rfl, ho0, hb⟩; refine ⟨_, rfl, ?_⟩; have b0 := yaa (Kd.R_lower (Kd.R_new' ho0 (Kd.R_lt (upR a8.out))) (below_size (by repeat (with_reducible first | exact HB.out | apply yag | apply yab | apply yae | refine yaj ?_ (Aside0.out ‹_›))))); replace a8 := yaa (Kd.R_elder' (upR a8.out) (Kd.R_base ho0) hb); replace a2 := yaa (yaf (upB a2.out) hb); replace HB := yaa (yal (by repeat (with_reducible first | exact HB.out | apply yag | apply yab | apply yae | refine yaj ?_ (Aside0.out ‹_›))) hb); (try clear hb ho0)) | ((with_reducible refine gd_ 8 rfl ?_); (try (refine gate_guard (by rfl) ?_; dsimp only)); refine bx_ 8 rfl #[.slice none 0 0, .string (⟨#[]⟩ : ByteArray), .int .i64 0] 37 ?_; intro c8 hg w20 hbox hb; replace a8 := yaa (yac (upR a8.out) hb); replace b0 := yaa (yac (upR b0.out) hb); have a3 := yaa (hbox); have m5 := yaa ((by rw [hg]; exact (below_size (by repeat (with_reducible first | exact HB.out | apply yag | apply yab | apply yae | refine yaj ?_ (Aside0.out ‹_›)))) : w.heap.size ≤ c8)); replace HB := yaa (yal (by repeat (with_reducible first | exact HB.out | apply yag | apply yab | apply yae | refine yaj ?_ (Aside0.out ‹_›))) hb); have A5 := m5; have d7 := yaa ((by rw [hg]; exact Nat.ne_of_lt (blk_lt (upB a2.out)) : d1 ≠ c8)); replace a2 := yaa (yaf (upB a2.out) hb); have e2 := yaa d7.out.symm; clear hb hbox hg; obtain ⟨d2, d3, v5⟩ := Kd.R_slice b0.out; subst v5; have B0 := e2.out; have B1 := d7.out; obtain ⟨s9, t0, t1⟩ := cc3_ a3.out; obtain ⟨t2, t3⟩ := cf2_ a3.out; have t4 := blk_frozen a3.out 2) | ((with_reducible refine gc_ 17 rfl ?_); refine gl_ (some 35) rfl Tryd.func17 #[.string g9] ?_; (with_reducible refine (spec_AskRead.calls kj2 g9 b4 d6 d9 g5 _ A10.out).mono ?_); rintro e w24 ⟨E7, rfl, ho0, hb⟩; refine ⟨_, rfl, ?_⟩; have b1 := yaa (Kd.R_lower (Kd.R_new' (Kd.R_new' ho0 (Kd.R_lt (by (with_reducible repeat (first | apply yam | apply yan | apply yak)); exact (yap (yah (p := ⟨c8, 2, none⟩) (yah (p := ⟨c8, 1, none⟩) (yah (p := ⟨c8, 0, none⟩) (yao a8.out a3.out (by decide)) (fun _ hk => hk.2) (.slice d2 b7.length d3)) (fun _ hk => hk.2) (.string e0)) (fun _ hk => hk.2) (.int .i64 e1)) (fun _ h_ => h_.1))))) (Kd.R_lt (by (with_reducible repeat (first | apply yam | apply yan | apply yak)); exact (yap (yah (p := ⟨c8, 2, none⟩) (yah (p := ⟨c8, 1, none⟩) (yah (p := ⟨c8, 0, none⟩) (yao b0.out a3.out (by decide)) (fun _ hk => hk.2) (.slice d2 b7.length d3)) (fun _ hk => hk.2) (.string e0)) (fun _ hk => hk.2) (.int .i64 e1)) (fun _ h_ => h_.1))))) (below_size (by repeat (with_reducible first | exact HB.out | apply yag | apply yab | apply yae | refine yaj ?_ (Aside0.out ‹_›))))); replace a8 := yaa (Kd.R_elder' (by (with_reducible repeat (first | apply yam | apply yan | apply yak)); exact (yap (yah (p := ⟨c8, 2, none⟩) (yah (p := ⟨c8, 1, none⟩) (yah (p := ⟨c8, 0, none⟩) (yao a8.out a3.out (by decide)) (fun _ hk => hk.2) (.slice d2 b7.length d3)) (fun _ hk => hk.2) (.string e0)) (fun _ hk => hk.2) (.int .i64 e1)) (fun _ h_ => h_.1))) (Kd.R_base ho0) hb); replace b0 := yaa (Kd.R_elder' (by (with_reducible repeat (first | apply yam | apply yan | apply yak)); exact (yap (yah (p := ⟨c8, 2, none⟩) (yah (p := ⟨c8, 1, none⟩) (yah (p := ⟨c8, 0, none⟩) (yao b0.out a3.out (by decide)) (fun _ hk => hk.2) (.slice d2 b7.length d3)) (fun _ hk => hk.2) (.string e0)) (fun _ hk => hk.2) (.int .i64 e1)) (fun _ h_ => h_.1))) (Kd.R_base ho0) hb); replace a2 := yaa (yaf (g := d1) (o := .cells #[.slice d0 b2.length c9, .string d4, .int .i64 d5] 37 (0, 0)) (by repeat (with_reducible first | exact a2.out | refine oneB ?_ | refine yau ?_ d7.out _)) hb); replace a3 := yaa (yaf (g := c8) (o := .cells #[.slice d2 b7.length d3, .string e0, .int .i64 e1] 37 (0, 0)) (by (repeat refine oneB ?_); refine blk_put (cs := #[.slice d2 b7.length d3, .string e0, .int .i64 0]) ?_ 2 _ rfl; refine blk_put (cs := #[.slice d2 b7.length d3, .string (⟨#[]⟩ : ByteArray), .int .i64 0]) ?_ 1 _ rfl; refine blk_put (cs := #[.slice none 0 0, .string (⟨#[]⟩ : ByteArray), .int .i64 0]) ?_ 0 _ rfl; exact upB a3.out) hb); replace HB := yaa (yal (by repeat (with_reducible first | exact HB.out | apply yag | apply yab | apply yae | refine yaj ?_ (Aside0.out ‹_›))) hb); (try clear hb ho0)) | ((with_reducible refine gd_ 10 rfl ?_); (try (refine gate_guard (by rfl) ?_; dsimp only)); refine bx_ 10 rfl #[.slice none 0 0, .string (⟨#[]⟩ : ByteArray), .int .i64 0] 37 ?_; intro a9 hg w25 hbox hb; replace a8 := yaa (yac (upR a8.out) hb); replace b0 := yaa (yac (upR b0.out) hb); replace b1 := yaa (yac (upR b1.out) hb); have a4 := yaa (hbox); have m6 := yaa ((by rw [hg]; exact (below_size (by repeat (with_reducible first | exact HB.out | apply yag | apply yab | apply yae | refine yaj ?_ (Aside0.out ‹_›)))) : w.heap.size ≤ a9)); replace HB := yaa (yal (by repeat (with_reducible first | exact HB.out | apply yag | apply yab | apply yae | refine yaj ?_ (Aside0.out ‹_›))) hb); have B2 := m6; have b6 := yaa ((by rw [hg]; exact Nat.ne_of_lt (blk_lt (upB a2.out)) : d1 ≠ a9)); replace a2 := yaa (yaf (upB a2.out) hb); have f3 := yaa b6.out.symm; have b5 := yaa ((by rw [hg]; exact Nat.ne_of_lt (blk_lt (upB a3.out)) : c8 ≠ a9)); replace a3 := yaa (yaf (upB a3.out) hb); have e8 := yaa b5.out.symm; clear hb hbox hg; obtain ⟨b8, b9, v6⟩ := Kd.R_slice b1.out; subst v6; have B3 := f3.out; have B4 := b6.out; have B5 := e8.out; have B6 := b5.out; obtain ⟨t5, t6, t7⟩ := cc3_ a4.out; obtain ⟨t8, t9⟩ := cf2_ a4.out; have u0 := blk_frozen a4.out 2))
    (try simp only [Act.put, List.setIfInBounds_toArray, List.set_cons_zero, List.set_cons_succ])
    go_cut [59] (fun v59 wc => ∃ (kq : Nat) (g6 : Bool), v59 = .bool g6 ∧ yas (laws_FnAskText.j1 kq g9 g4 f5 g6 b2 d4 d5 b7 e0 e1 = some r) ∧ yas (kq ≤ kj2) ∧ yas (Kd.R k23 23 wc w.heap.size (fun k_ => some k_ ≠ ((.slice d2 b7.length d3) : Value).ownBlock ∧ some k_ ≠ ((.slice b8 b4.length b9) : Value).ownBlock) (.slice d0 b2.length c9) b2) ∧ yas (Kd.R k23 23 wc w.heap.size (fun k_ => some k_ ≠ ((.slice d0 b2.length c9) : Value).ownBlock ∧ some k_ ≠ ((.slice b8 b4.length b9) : Value).ownBlock) (.slice d2 b7.length d3) b7) ∧ yas (Kd.R k23 23 wc w.heap.size (fun k_ => some k_ ≠ ((.slice d0 b2.length c9) : Value).ownBlock ∧ some k_ ≠ ((.slice d2 b7.length d3) : Value).ownBlock) (.slice b8 b4.length b9) b4) ∧ yas (wc.heap[d1]? = some (.cells #[(.slice d0 b2.length c9), .string d4, .int .i64 d5] 37 (0, 0))) ∧ yas (wc.heap[c8]? = some (.cells #[(.slice d2 b7.length d3), .string e0, .int .i64 e1] 37 (0, 0))) ∧ yas (wc.heap[a9]? = some (.cells #[(.slice b8 b4.length b9), .string d6, .int .i64 d9] 37 (0, 0))) ∧ yas (Below w.heap.size w wc))
    case first =>
     have H := HC11.out; clear HC11; obtain ⟨h5, A30, H⟩ := bindA H; (try dsimp only at H)
     by_cases c31 : g4.toList = h5.toList
     ·
      rw [if_pos c31] at H
      have g0 := beq_iff_eq.mpr c31; have h6 := bne_eq_false_iff_eq.mpr c31; clear c31
      (first | rw [g0] | (simp only [i64_w, i32_w]; rw [g0]) | skip)
      obtain ⟨v7, A32, H⟩ := bindA H; (try dsimp only at H)
      by_cases c33 : v7 = true
      ·
       subst c33
       rw [if_pos rfl] at H
       by_cases c34 : (f5 != g5) = true
       ·
        rw [if_pos c34] at H
        have m7 : (f5 != g5) = true := c34
        (try (have m8 : decide (f5 = g5) = false := by simpa using c34))
        (try (have m9 : (f5 == g5) = false := by simpa using c34))
        (try (have B7 : ¬ (f5 = g5) := by simpa using c34))
        clear c34; have H' := yaa H; clear H
        try go_wp2
        generalize hg_ : (((w25.setCell ⟨a9, 0, none⟩ (.slice b8 b4.length b9)).setCell ⟨a9, 1, none⟩ (.string d6)).setCell ⟨a9, 2, none⟩ (.int .i64 d9)) = w35
        replace a8 : yas (Kd.R k23 23 w35 w.heap.size (fun k_ => some k_ ≠ (.slice d2 b7.length d3 : Value).ownBlock ∧ some k_ ≠ (.slice b8 b4.length b9 : Value).ownBlock) (.slice d0 b2.length c9) b2) := ⟨by subst hg_; (with_reducible repeat (first | apply yam | apply yan | apply yak)); exact yap (yah (p := ⟨a9, 2, none⟩) (yah (p := ⟨a9, 1, none⟩) (yah (p := ⟨a9, 0, none⟩) (yao a8.out a4.out (by decide)) (fun _ hk => hk.2) (.slice b8 b4.length b9)) (fun _ hk => hk.2) (.string d6)) (fun _ hk => hk.2) (.int .i64 d9)) (fun _ hk => ⟨hk.1.1.2, hk.1.2⟩)⟩
        replace b0 : yas (Kd.R k23 23 w35 w.heap.size (fun k_ => some k_ ≠ (.slice d0 b2.length c9 : Value).ownBlock ∧ some k_ ≠ (.slice b8 b4.length b9 : Value).ownBlock) (.slice d2 b7.length d3) b7) := ⟨by subst hg_; (with_reducible repeat (first | apply yam | apply yan | apply yak)); exact yap (yah (p := ⟨a9, 2, none⟩) (yah (p := ⟨a9, 1, none⟩) (yah (p := ⟨a9, 0, none⟩) (yao b0.out a4.out (by decide)) (fun _ hk => hk.2) (.slice b8 b4.length b9)) (fun _ hk => hk.2) (.string d6)) (fun _ hk => hk.2) (.int .i64 d9)) (fun _ hk => ⟨hk.1.1.2, hk.1.2⟩)⟩
        replace b1 : yas (Kd.R k23 23 w35 w.heap.size (fun k_ => some k_ ≠ (.slice d0 b2.length c9 : Value).ownBlock ∧ some k_ ≠ (.slice d2 b7.length d3 : Value).ownBlock) (.slice b8 b4.length b9) b4) := ⟨by subst hg_; (with_reducible repeat (first | apply yam | apply yan | apply yak)); exact yap (yah (p := ⟨a9, 2, none⟩) (yah (p := ⟨a9, 1, none⟩) (yah (p := ⟨a9, 0, none⟩) (yao b1.out a4.out (by decide)) (fun _ hk => hk.2) (.slice b8 b4.length b9)) (fun _ hk => hk.2) (.string d6)) (fun _ hk => hk.2) (.int .i64 d9)) (fun _ hk => ⟨hk.1.1.2, hk.1.2⟩)⟩
        replace a2 : yas (w35.heap[d1]? = some (.cells #[.slice d0 b2.length c9, .string d4, .int .i64 d5] 37 (0, 0))) := ⟨by subst hg_; (repeat refine oneB ?_); refine yau ?_ b6.out _; (repeat refine oneB ?_); refine yau ?_ b6.out _; (repeat refine oneB ?_); refine yau ?_ b6.out _; exact upB a2.out⟩; replace a3 : yas (w35.heap[c8]? = some (.cells #[.slice d2 b7.length d3, .string e0, .int .i64 e1] 37 (0, 0))) := ⟨by subst hg_; (repeat refine oneB ?_); refine yau ?_ b5.out _; (repeat refine oneB ?_); refine yau ?_ b5.out _; (repeat refine oneB ?_); refine yau ?_ b5.out _; exact upB a3.out⟩; replace a4 : yas (w35.heap[a9]? = some (.cells #[.slice b8 b4.length b9, .string d6, .int .i64 d9] 37 (0, 0))) := ⟨by subst hg_; (repeat refine oneB ?_); refine blk_put (cs := #[.slice b8 b4.length b9, .string d6, .int .i64 0]) ?_ 2 _ rfl; refine blk_put (cs := #[.slice b8 b4.length b9, .string (⟨#[]⟩ : ByteArray), .int .i64 0]) ?_ 1 _ rfl; refine blk_put (cs := #[.slice none 0 0, .string (⟨#[]⟩ : ByteArray), .int .i64 0]) ?_ 0 _ rfl; exact upB a4.out⟩
        replace HB : yas (Below w.heap.size w w35) := ⟨by subst hg_; repeat (with_reducible first | exact HB.out | apply yag | apply yab | apply yae | refine yaj ?_ (Aside0.out ‹_›))⟩
        clear hg_; replace a8 := yaa (yak a8.out); replace b0 := yaa (yak b0.out); replace b1 := yaa (yak b1.out); replace a2 := yaa (blk_drew a2.out); replace a3 := yaa (blk_drew a3.out); replace a4 := yaa (blk_drew a4.out); replace HB := yaa (yae HB.out)
        refine start_ (n := 22) (S := fun w' => w'.cell? ⟨d1, 0, none⟩ = some (.slice d0 b2.length c9) ∧ w'.cell? ⟨d1, 1, none⟩ = some (.string d4) ∧ w'.cell? ⟨d1, 2, none⟩ = some (.int .i64 d5) ∧ w'.cell? ⟨c8, 0, none⟩ = some (.slice d2 b7.length d3) ∧ w'.cell? ⟨c8, 1, none⟩ = some (.string e0) ∧ w'.cell? ⟨c8, 2, none⟩ = some (.int .i64 e1) ∧ w'.cell? ⟨a9, 0, none⟩ = some (.slice b8 b4.length b9) ∧ w'.cell? ⟨a9, 1, none⟩ = some (.string d6) ∧ w'.cell? ⟨a9, 2, none⟩ = some (.int .i64 d9)) (ds := []) q6_0 (by kernel_rfl) rfl rfl ⟨(yad a2.out 0).trans rfl, (yad a2.out 1).trans rfl, (yad a2.out 2).trans rfl, (yad a3.out 0).trans rfl, (yad a3.out 1).trans rfl, (yad a3.out 2).trans rfl, (yad a4.out 0).trans rfl, (yad a4.out 1).trans rfl, (yad a4.out 2).trans rfl⟩ (fun hHeld => ?_); refine with_tabW laws_FnAskText.tab8 laws_FnAskText.bits8 (fun HT_ HW_ => ?_)
        generalize w35.drew = w36 at a8 b0 b1 a2 a3 a4 HB hHeld ⊢
        refine pz_ 0 38 q6_1 HT_ (by kernel_rfl) ?_
        refine tz_ 1 39 q6_2 HT_ HW_ (by kernel_rfl) hHeld ?_
        refine one_ (i := 2) (N := some 40) q6_3 rfl rfl (one_of HT_.out (by kernel_rfl)) (by decide) (fun K hK => ?_)
        refine goes_ Tryd.func25 (by kernel_rfl) rfl #[.agg #[.slice d0 b2.length c9, .string d4, .int .i64 d5]] (by rfl) rfl rfl (by (try simp only [List.map_toArray, List.map_cons, List.map_nil]); first | done | rfl | (simp only [List.length_drop, List.length_take]; rfl)) ?_
        with_reducible refine (spec_AskText.calls kj2 _ _ b2 d4 d5 h5 _ ?side1 ?side2 A30.out).mono ?_
        (case side1 => repeat (first | exact (yai a8.out).2.2 | (with_reducible refine yaq ?_ _) | (with_reducible refine yar ?_ _) | (with_reducible refine yat ?_)))
        (case side2 => exact (yai a8.out).2.1)
        rintro e w37 ⟨rfl, hb⟩; refine ⟨_, rfl, ?_⟩; have n0_ := yaa (yac (upR a8.out) hb); have n1_ := yaa (yac (upR b0.out) hb); have n2_ := yaa (yac (upR b1.out) hb); have n3_ := yaa (yaf (upB a2.out) hb); have n4_ := yaa (yaf (upB a3.out) hb); have n5_ := yaa (yaf (upB a4.out) hb)
        have n6_ := yaa (yal (by repeat (with_reducible first | exact HB.out | apply yag | apply yab | apply yae | refine yaj ?_ (Aside0.out ‹_›))) hb)
        clear a8; clear b0; clear b1; clear a2; clear a3; clear a4; clear HB; have a8 := n0_; have b0 := n1_; have b1 := n2_; have a2 := n3_; have a3 := n4_; have a4 := n5_; have HB := n6_; clear n0_ n1_ n2_ n3_ n4_ n5_ n6_; (try clear hb); (try clear hb2); (try clear hk); (try clear hi)
        refine hK.out _ _ ⟨(yad a2.out 0).trans rfl, (yad a2.out 1).trans rfl, (yad a2.out 2).trans rfl, (yad a3.out 0).trans rfl, (yad a3.out 1).trans rfl, (yad a3.out 2).trans rfl, (yad a4.out 0).trans rfl, (yad a4.out 1).trans rfl, (yad a4.out 2).trans rfl⟩ (fun hHeld => ?_)
        clear hK K
        refine norm_ (a' := ?_) ?_ ?_
        rotate_left
        ·
         show Act.put _ (some 40) _ = _
         simp only [Act.put, List.setIfInBounds_toArray, List.set_cons_zero, List.set_cons_succ, i64_w, i32_w]
         rfl
        refine pz_ 3 41 q6_4 HT_ (by kernel_rfl) ?_
        refine pz_ 4 42 q6_5 HT_ (by kernel_rfl) ?_
        refine tz_ 5 43 q6_6 HT_ HW_ (by kernel_rfl) hHeld ?_
        refine tz_ 6 44 q6_7 HT_ HW_ (by kernel_rfl) hHeld ?_
        refine one_ (i := 7) (N := some 45) q6_8 rfl rfl (one_of HT_.out (by kernel_rfl)) (by decide) (fun K hK => ?_)
        refine goes_ Tryd.func26 (by kernel_rfl) rfl #[.agg #[.slice d2 b7.length d3, .string e0, .int .i64 e1], .agg #[.slice b8 b4.length b9, .string d6, .int .i64 d9]] (by rfl) rfl rfl (by (try simp only [List.map_toArray, List.map_cons, List.map_nil]); first | done | rfl | (simp only [List.length_drop, List.length_take]; rfl)) ?_
        with_reducible refine (laws_eaAsk.calls kj2 _ _ b7 e0 e1 _ _ b4 d6 d9 true _ ?side1 ?side2 ?side3 ?side4 A32.out).mono ?_
        (case side1 => repeat (first | exact (yai b0.out).2.2 | (with_reducible refine yaq ?_ _) | (with_reducible refine yar ?_ _) | (with_reducible refine yat ?_)))
        (case side2 => exact (yai b0.out).2.1)
        (case side3 => repeat (first | exact (yai b1.out).2.2 | (with_reducible refine yaq ?_ _) | (with_reducible refine yar ?_ _) | (with_reducible refine yat ?_)))
        (case side4 => exact (yai b1.out).2.1)
        rintro e w38 ⟨rfl, hb⟩; refine ⟨_, rfl, ?_⟩; have n0_ := yaa (yac (upR a8.out) hb); have n1_ := yaa (yac (upR b0.out) hb); have n2_ := yaa (yac (upR b1.out) hb); have n3_ := yaa (yaf (upB a2.out) hb); have n4_ := yaa (yaf (upB a3.out) hb); have n5_ := yaa (yaf (upB a4.out) hb)
        have n6_ := yaa (yal (by repeat (with_reducible first | exact HB.out | apply yag | apply yab | apply yae | refine yaj ?_ (Aside0.out ‹_›))) hb)
        clear a8; clear b0; clear b1; clear a2; clear a3; clear a4; clear HB; have a8 := n0_; have b0 := n1_; have b1 := n2_; have a2 := n3_; have a3 := n4_; have a4 := n5_; have HB := n6_; clear n0_ n1_ n2_ n3_ n4_ n5_ n6_; (try clear hb); (try clear hb2); (try clear hk); (try clear hi)
        refine hK.out _ _ ⟨(yad a2.out 0).trans rfl, (yad a2.out 1).trans rfl, (yad a2.out 2).trans rfl, (yad a3.out 0).trans rfl, (yad a3.out 1).trans rfl, (yad a3.out 2).trans rfl, (yad a4.out 0).trans rfl, (yad a4.out 1).trans rfl, (yad a4.out 2).trans rfl⟩ (fun hHeld => ?_)
        clear hK K
        refine norm_ (a' := ?_) ?_ ?_
        rotate_left
        ·
         show Act.put _ (some 45) _ = _
         simp only [Act.put, List.setIfInBounds_toArray, List.set_cons_zero, List.set_cons_succ, i64_w, i32_w]
         rfl
        refine pz_ 8 46 q6_9 HT_ (by kernel_rfl) ?_
        refine pz_ 9 47 q6_10 HT_ (by kernel_rfl) ?_
        refine pz_ 10 48 q6_11 HT_ (by kernel_rfl) ?_
        refine pz_ 11 49 q6_12 HT_ (by kernel_rfl) ?_
        refine pz_ 12 50 q6_13 HT_ (by kernel_rfl) ?_
        refine pz_ 13 51 q6_14 HT_ (by kernel_rfl) ?_
        refine pz_ 14 52 q6_15 HT_ (by kernel_rfl) ?_
        refine pz_ 15 53 q6_16 HT_ (by kernel_rfl) ?_
        refine pu_ 16 54 q6_17 HT_ (by kernel_rfl) ?_
        refine pu_ 17 55 q6_18 HT_ (by kernel_rfl) ?_
        refine pu_ 18 56 q6_19 HT_ (by kernel_rfl) ?_
        refine pu_ 19 57 q6_20 HT_ (by kernel_rfl) ?_
        refine pu_ 20 58 q6_21 HT_ (by kernel_rfl) ?_
        refine pz_ 21 59 q6_22 HT_ (by kernel_rfl) ?_
        refine done_ (done_of HT_.out (by kernel_rfl)) ?_
        try go_wp2
        go_meet
        case rel => exact ⟨_, (true), (by first | rfl | (simp; done) | (simp [*]; done)), H', ⟨by have := HJ2.out; first | omega | exact Nat.le_refl _⟩, ⟨by first | exact a8.out | exact upR a8.out⟩, ⟨by first | exact b0.out | exact upR b0.out⟩, ⟨by first | exact b1.out | exact upR b1.out⟩, ⟨by exact upB a2.out⟩, ⟨by exact upB a3.out⟩, ⟨by exact upB a4.out⟩, ⟨by repeat (with_reducible first | exact HB.out | apply yag | apply yab | apply yae | refine yaj ?_ (Aside0.out ‹_›))⟩⟩
       ·
        rw [if_neg c34] at H
        have m7 : (f5 != g5) = false := (by simpa using c34)
        (try (have m8 : decide (f5 = g5) = true := by simpa using c34))
        (try (have m9 : (f5 == g5) = true := by simpa using c34))
        clear c34; obtain ⟨n0, A39, H⟩ := bindA H; (try dsimp only at H); obtain ⟨n1, A40, H⟩ := bindA H; (try dsimp only at H); have H' := yaa H; clear H
        try go_wp2
        generalize hg_ : (((w25.setCell ⟨a9, 0, none⟩ (.slice b8 b4.length b9)).setCell ⟨a9, 1, none⟩ (.string d6)).setCell ⟨a9, 2, none⟩ (.int .i64 d9)) = w41
        replace a8 : yas (Kd.R k23 23 w41 w.heap.size (fun k_ => some k_ ≠ (.slice d2 b7.length d3 : Value).ownBlock ∧ some k_ ≠ (.slice b8 b4.length b9 : Value).ownBlock) (.slice d0 b2.length c9) b2) := ⟨by subst hg_; (with_reducible repeat (first | apply yam | apply yan | apply yak)); exact yap (yah (p := ⟨a9, 2, none⟩) (yah (p := ⟨a9, 1, none⟩) (yah (p := ⟨a9, 0, none⟩) (yao a8.out a4.out (by decide)) (fun _ hk => hk.2) (.slice b8 b4.length b9)) (fun _ hk => hk.2) (.string d6)) (fun _ hk => hk.2) (.int .i64 d9)) (fun _ hk => ⟨hk.1.1.2, hk.1.2⟩)⟩
        replace b0 : yas (Kd.R k23 23 w41 w.heap.size (fun k_ => some k_ ≠ (.slice d0 b2.length c9 : Value).ownBlock ∧ some k_ ≠ (.slice b8 b4.length b9 : Value).ownBlock) (.slice d2 b7.length d3) b7) := ⟨by subst hg_; (with_reducible repeat (first | apply yam | apply yan | apply yak)); exact yap (yah (p := ⟨a9, 2, none⟩) (yah (p := ⟨a9, 1, none⟩) (yah (p := ⟨a9, 0, none⟩) (yao b0.out a4.out (by decide)) (fun _ hk => hk.2) (.slice b8 b4.length b9)) (fun _ hk => hk.2) (.string d6)) (fun _ hk => hk.2) (.int .i64 d9)) (fun _ hk => ⟨hk.1.1.2, hk.1.2⟩)⟩
        replace b1 : yas (Kd.R k23 23 w41 w.heap.size (fun k_ => some k_ ≠ (.slice d0 b2.length c9 : Value).ownBlock ∧ some k_ ≠ (.slice d2 b7.length d3 : Value).ownBlock) (.slice b8 b4.length b9) b4) := ⟨by subst hg_; (with_reducible repeat (first | apply yam | apply yan | apply yak)); exact yap (yah (p := ⟨a9, 2, none⟩) (yah (p := ⟨a9, 1, none⟩) (yah (p := ⟨a9, 0, none⟩) (yao b1.out a4.out (by decide)) (fun _ hk => hk.2) (.slice b8 b4.length b9)) (fun _ hk => hk.2) (.string d6)) (fun _ hk => hk.2) (.int .i64 d9)) (fun _ hk => ⟨hk.1.1.2, hk.1.2⟩)⟩
        replace a2 : yas (w41.heap[d1]? = some (.cells #[.slice d0 b2.length c9, .string d4, .int .i64 d5] 37 (0, 0))) := ⟨by subst hg_; (repeat refine oneB ?_); refine yau ?_ b6.out _; (repeat refine oneB ?_); refine yau ?_ b6.out _; (repeat refine oneB ?_); refine yau ?_ b6.out _; exact upB a2.out⟩; replace a3 : yas (w41.heap[c8]? = some (.cells #[.slice d2 b7.length d3, .string e0, .int .i64 e1] 37 (0, 0))) := ⟨by subst hg_; (repeat refine oneB ?_); refine yau ?_ b5.out _; (repeat refine oneB ?_); refine yau ?_ b5.out _; (repeat refine oneB ?_); refine yau ?_ b5.out _; exact upB a3.out⟩; replace a4 : yas (w41.heap[a9]? = some (.cells #[.slice b8 b4.length b9, .string d6, .int .i64 d9] 37 (0, 0))) := ⟨by subst hg_; (repeat refine oneB ?_); refine blk_put (cs := #[.slice b8 b4.length b9, .string d6, .int .i64 0]) ?_ 2 _ rfl; refine blk_put (cs := #[.slice b8 b4.length b9, .string (⟨#[]⟩ : ByteArray), .int .i64 0]) ?_ 1 _ rfl; refine blk_put (cs := #[.slice none 0 0, .string (⟨#[]⟩ : ByteArray), .int .i64 0]) ?_ 0 _ rfl; exact upB a4.out⟩
        replace HB : yas (Below w.heap.size w w41) := ⟨by subst hg_; repeat (with_reducible first | exact HB.out | apply yag | apply yab | apply yae | refine yaj ?_ (Aside0.out ‹_›))⟩
        clear hg_; replace a8 := yaa (yak a8.out); replace b0 := yaa (yak b0.out); replace b1 := yaa (yak b1.out); replace a2 := yaa (blk_drew a2.out); replace a3 := yaa (blk_drew a3.out); replace a4 := yaa (blk_drew a4.out); replace HB := yaa (yae HB.out)
        refine start_ (n := 22) (S := fun w' => w'.cell? ⟨d1, 0, none⟩ = some (.slice d0 b2.length c9) ∧ w'.cell? ⟨d1, 1, none⟩ = some (.string d4) ∧ w'.cell? ⟨d1, 2, none⟩ = some (.int .i64 d5) ∧ w'.cell? ⟨c8, 0, none⟩ = some (.slice d2 b7.length d3) ∧ w'.cell? ⟨c8, 1, none⟩ = some (.string e0) ∧ w'.cell? ⟨c8, 2, none⟩ = some (.int .i64 e1) ∧ w'.cell? ⟨a9, 0, none⟩ = some (.slice b8 b4.length b9) ∧ w'.cell? ⟨a9, 1, none⟩ = some (.string d6) ∧ w'.cell? ⟨a9, 2, none⟩ = some (.int .i64 d9)) (ds := []) q6_0 (by kernel_rfl) rfl rfl ⟨(yad a2.out 0).trans rfl, (yad a2.out 1).trans rfl, (yad a2.out 2).trans rfl, (yad a3.out 0).trans rfl, (yad a3.out 1).trans rfl, (yad a3.out 2).trans rfl, (yad a4.out 0).trans rfl, (yad a4.out 1).trans rfl, (yad a4.out 2).trans rfl⟩ (fun hHeld => ?_); refine with_tabW laws_FnAskText.tab8 laws_FnAskText.bits8 (fun HT_ HW_ => ?_)
        generalize w41.drew = w42 at a8 b0 b1 a2 a3 a4 HB hHeld ⊢
        refine pz_ 0 38 q6_1 HT_ (by kernel_rfl) ?_
        refine tz_ 1 39 q6_2 HT_ HW_ (by kernel_rfl) hHeld ?_
        refine one_ (i := 2) (N := some 40) q6_3 rfl rfl (one_of HT_.out (by kernel_rfl)) (by decide) (fun K hK => ?_)
        refine goes_ Tryd.func25 (by kernel_rfl) rfl #[.agg #[.slice d0 b2.length c9, .string d4, .int .i64 d5]] (by rfl) rfl rfl (by (try simp only [List.map_toArray, List.map_cons, List.map_nil]); first | done | rfl | (simp only [List.length_drop, List.length_take]; rfl)) ?_
        with_reducible refine (spec_AskText.calls kj2 _ _ b2 d4 d5 h5 _ ?side1 ?side2 A30.out).mono ?_
        (case side1 => repeat (first | exact (yai a8.out).2.2 | (with_reducible refine yaq ?_ _) | (with_reducible refine yar ?_ _) | (with_reducible refine yat ?_)))
        (case side2 => exact (yai a8.out).2.1)
        rintro e w43 ⟨rfl, hb⟩; refine ⟨_, rfl, ?_⟩; have n0_ := yaa (yac (upR a8.out) hb); have n1_ := yaa (yac (upR b0.out) hb); have n2_ := yaa (yac (upR b1.out) hb); have n3_ := yaa (yaf (upB a2.out) hb); have n4_ := yaa (yaf (upB a3.out) hb); have n5_ := yaa (yaf (upB a4.out) hb)
        have n6_ := yaa (yal (by repeat (with_reducible first | exact HB.out | apply yag | apply yab | apply yae | refine yaj ?_ (Aside0.out ‹_›))) hb)
        clear a8; clear b0; clear b1; clear a2; clear a3; clear a4; clear HB; have a8 := n0_; have b0 := n1_; have b1 := n2_; have a2 := n3_; have a3 := n4_; have a4 := n5_; have HB := n6_; clear n0_ n1_ n2_ n3_ n4_ n5_ n6_; (try clear hb); (try clear hb2); (try clear hk); (try clear hi)
        refine hK.out _ _ ⟨(yad a2.out 0).trans rfl, (yad a2.out 1).trans rfl, (yad a2.out 2).trans rfl, (yad a3.out 0).trans rfl, (yad a3.out 1).trans rfl, (yad a3.out 2).trans rfl, (yad a4.out 0).trans rfl, (yad a4.out 1).trans rfl, (yad a4.out 2).trans rfl⟩ (fun hHeld => ?_)
        clear hK K
        refine norm_ (a' := ?_) ?_ ?_
        rotate_left
        ·
         show Act.put _ (some 40) _ = _
         simp only [Act.put, List.setIfInBounds_toArray, List.set_cons_zero, List.set_cons_succ, i64_w, i32_w]
         rfl
        refine pz_ 3 41 q6_4 HT_ (by kernel_rfl) ?_
        refine pz_ 4 42 q6_5 HT_ (by kernel_rfl) ?_
        refine tz_ 5 43 q6_6 HT_ HW_ (by kernel_rfl) hHeld ?_
        refine tz_ 6 44 q6_7 HT_ HW_ (by kernel_rfl) hHeld ?_
        refine one_ (i := 7) (N := some 45) q6_8 rfl rfl (one_of HT_.out (by kernel_rfl)) (by decide) (fun K hK => ?_)
        refine goes_ Tryd.func26 (by kernel_rfl) rfl #[.agg #[.slice d2 b7.length d3, .string e0, .int .i64 e1], .agg #[.slice b8 b4.length b9, .string d6, .int .i64 d9]] (by rfl) rfl rfl (by (try simp only [List.map_toArray, List.map_cons, List.map_nil]); first | done | rfl | (simp only [List.length_drop, List.length_take]; rfl)) ?_
        with_reducible refine (laws_eaAsk.calls kj2 _ _ b7 e0 e1 _ _ b4 d6 d9 true _ ?side1 ?side2 ?side3 ?side4 A32.out).mono ?_
        (case side1 => repeat (first | exact (yai b0.out).2.2 | (with_reducible refine yaq ?_ _) | (with_reducible refine yar ?_ _) | (with_reducible refine yat ?_)))
        (case side2 => exact (yai b0.out).2.1)
        (case side3 => repeat (first | exact (yai b1.out).2.2 | (with_reducible refine yaq ?_ _) | (with_reducible refine yar ?_ _) | (with_reducible refine yat ?_)))
        (case side4 => exact (yai b1.out).2.1)
        rintro e w44 ⟨rfl, hb⟩; refine ⟨_, rfl, ?_⟩; have n0_ := yaa (yac (upR a8.out) hb); have n1_ := yaa (yac (upR b0.out) hb); have n2_ := yaa (yac (upR b1.out) hb); have n3_ := yaa (yaf (upB a2.out) hb); have n4_ := yaa (yaf (upB a3.out) hb); have n5_ := yaa (yaf (upB a4.out) hb)
        have n6_ := yaa (yal (by repeat (with_reducible first | exact HB.out | apply yag | apply yab | apply yae | refine yaj ?_ (Aside0.out ‹_›))) hb)
        clear a8; clear b0; clear b1; clear a2; clear a3; clear a4; clear HB; have a8 := n0_; have b0 := n1_; have b1 := n2_; have a2 := n3_; have a3 := n4_; have a4 := n5_; have HB := n6_; clear n0_ n1_ n2_ n3_ n4_ n5_ n6_; (try clear hb); (try clear hb2); (try clear hk); (try clear hi)
        refine hK.out _ _ ⟨(yad a2.out 0).trans rfl, (yad a2.out 1).trans rfl, (yad a2.out 2).trans rfl, (yad a3.out 0).trans rfl, (yad a3.out 1).trans rfl, (yad a3.out 2).trans rfl, (yad a4.out 0).trans rfl, (yad a4.out 1).trans rfl, (yad a4.out 2).trans rfl⟩ (fun hHeld => ?_)
        clear hK K
        refine norm_ (a' := ?_) ?_ ?_
        rotate_left
        ·
         show Act.put _ (some 45) _ = _
         simp only [Act.put, List.setIfInBounds_toArray, List.set_cons_zero, List.set_cons_succ, i64_w, i32_w]
         rfl
        refine pz_ 8 46 q6_9 HT_ (by kernel_rfl) ?_
        refine pz_ 9 47 q6_10 HT_ (by kernel_rfl) ?_
        refine pz_ 10 48 q6_11 HT_ (by kernel_rfl) ?_
        refine pz_ 11 49 q6_12 HT_ (by kernel_rfl) ?_
        refine pz_ 12 50 q6_13 HT_ (by kernel_rfl) ?_
        refine pz_ 13 51 q6_14 HT_ (by kernel_rfl) ?_
        refine pz_ 14 52 q6_15 HT_ (by kernel_rfl) ?_
        refine pz_ 15 53 q6_16 HT_ (by kernel_rfl) ?_
        refine tz_ 16 54 q6_17 HT_ HW_ (by kernel_rfl) hHeld ?_
        refine tz_ 18 56 q6_23 HT_ HW_ (by kernel_rfl) hHeld ?_
        refine one_ (i := 17) (N := some 55) q6_19 rfl rfl (one_of HT_.out (by kernel_rfl)) (by decide) (fun K hK => ?_)
        refine goes_ Tryd.func27 (by kernel_rfl) rfl #[.agg #[.slice d0 b2.length c9, .string d4, .int .i64 d5]] (by rfl) rfl rfl (by (try simp only [List.map_toArray, List.map_cons, List.map_nil]); first | done | rfl | (simp only [List.length_drop, List.length_take]; rfl)) ?_
        with_reducible refine (impl_AskOk.calls kj2 _ _ b2 d4 d5 n0 _ ?side1 ?side2 A39.out).mono ?_
        (case side1 => repeat (first | exact (yai a8.out).2.2 | (with_reducible refine yaq ?_ _) | (with_reducible refine yar ?_ _) | (with_reducible refine yat ?_)))
        (case side2 => exact (yai a8.out).2.1)
        rintro e w45 ⟨rfl, hb⟩; refine ⟨_, rfl, ?_⟩; have n0_ := yaa (yac (upR a8.out) hb); have n1_ := yaa (yac (upR b0.out) hb); have n2_ := yaa (yac (upR b1.out) hb); have n3_ := yaa (yaf (upB a2.out) hb); have n4_ := yaa (yaf (upB a3.out) hb); have n5_ := yaa (yaf (upB a4.out) hb)
        have n6_ := yaa (yal (by repeat (with_reducible first | exact HB.out | apply yag | apply yab | apply yae | refine yaj ?_ (Aside0.out ‹_›))) hb)
        clear a8; clear b0; clear b1; clear a2; clear a3; clear a4; clear HB; have a8 := n0_; have b0 := n1_; have b1 := n2_; have a2 := n3_; have a3 := n4_; have a4 := n5_; have HB := n6_; clear n0_ n1_ n2_ n3_ n4_ n5_ n6_; (try clear hb); (try clear hb2); (try clear hk); (try clear hi)
        refine hK.out _ _ ⟨(yad a2.out 0).trans rfl, (yad a2.out 1).trans rfl, (yad a2.out 2).trans rfl, (yad a3.out 0).trans rfl, (yad a3.out 1).trans rfl, (yad a3.out 2).trans rfl, (yad a4.out 0).trans rfl, (yad a4.out 1).trans rfl, (yad a4.out 2).trans rfl⟩ (fun hHeld => ?_)
        clear hK K
        refine norm_ (a' := ?_) ?_ ?_
        rotate_left
        ·
         show Act.put _ (some 55) _ = _
         simp only [Act.put, List.setIfInBounds_toArray, List.set_cons_zero, List.set_cons_succ, i64_w, i32_w]
         rfl
        refine one_ (i := 19) (N := some 57) q6_20 rfl rfl (one_of HT_.out (by kernel_rfl)) (by decide) (fun K hK => ?_)
        refine goes_ Tryd.func28 (by kernel_rfl) rfl #[.agg #[.slice d0 b2.length c9, .string d4, .int .i64 d5]] (by rfl) rfl rfl (by (try simp only [List.map_toArray, List.map_cons, List.map_nil]); first | done | rfl | (simp only [List.length_drop, List.length_take]; rfl)) ?_
        with_reducible refine (spec_AskOk.calls kj2 _ _ b2 d4 d5 n1 _ ?side1 ?side2 A40.out).mono ?_
        (case side1 => repeat (first | exact (yai a8.out).2.2 | (with_reducible refine yaq ?_ _) | (with_reducible refine yar ?_ _) | (with_reducible refine yat ?_)))
        (case side2 => exact (yai a8.out).2.1)
        rintro e w46 ⟨rfl, hb⟩; refine ⟨_, rfl, ?_⟩; have n0_ := yaa (yac (upR a8.out) hb); have n1_ := yaa (yac (upR b0.out) hb); have n2_ := yaa (yac (upR b1.out) hb); have n3_ := yaa (yaf (upB a2.out) hb); have n4_ := yaa (yaf (upB a3.out) hb); have n5_ := yaa (yaf (upB a4.out) hb)
        have n6_ := yaa (yal (by repeat (with_reducible first | exact HB.out | apply yag | apply yab | apply yae | refine yaj ?_ (Aside0.out ‹_›))) hb)
        clear a8; clear b0; clear b1; clear a2; clear a3; clear a4; clear HB; have a8 := n0_; have b0 := n1_; have b1 := n2_; have a2 := n3_; have a3 := n4_; have a4 := n5_; have HB := n6_; clear n0_ n1_ n2_ n3_ n4_ n5_ n6_; (try clear hb); (try clear hb2); (try clear hk); (try clear hi)
        refine hK.out _ _ ⟨(yad a2.out 0).trans rfl, (yad a2.out 1).trans rfl, (yad a2.out 2).trans rfl, (yad a3.out 0).trans rfl, (yad a3.out 1).trans rfl, (yad a3.out 2).trans rfl, (yad a4.out 0).trans rfl, (yad a4.out 1).trans rfl, (yad a4.out 2).trans rfl⟩ (fun hHeld => ?_)
        clear hK K
        refine norm_ (a' := ?_) ?_ ?_
        rotate_left
        ·
         show Act.put _ (some 57) _ = _
         simp only [Act.put, List.setIfInBounds_toArray, List.set_cons_zero, List.set_cons_succ, i64_w, i32_w]
         rfl
        refine pz_ 20 58 q6_21 HT_ (by kernel_rfl) ?_
        refine pz_ 21 59 q6_22 HT_ (by kernel_rfl) ?_
        refine done_ (done_of HT_.out (by kernel_rfl)) ?_
        try go_wp2
        go_meet
        case rel => exact ⟨_, ((n0 != n1)), (by first | rfl | (simp; done) | (simp [*]; done)), H', ⟨by have := HJ2.out; first | omega | exact Nat.le_refl _⟩, ⟨by first | exact a8.out | exact upR a8.out⟩, ⟨by first | exact b0.out | exact upR b0.out⟩, ⟨by first | exact b1.out | exact upR b1.out⟩, ⟨by exact upB a2.out⟩, ⟨by exact upB a3.out⟩, ⟨by exact upB a4.out⟩, ⟨by repeat (with_reducible first | exact HB.out | apply yag | apply yab | apply yae | refine yaj ?_ (Aside0.out ‹_›))⟩⟩
      ·
       replace c33 := Bool.eq_false_iff.mpr c33
       subst c33
       rw [if_neg (show ¬ (false = true) by decide)] at H
       have H' := yaa H; clear H
       try go_wp2
       generalize hg_ : (((w25.setCell ⟨a9, 0, none⟩ (.slice b8 b4.length b9)).setCell ⟨a9, 1, none⟩ (.string d6)).setCell ⟨a9, 2, none⟩ (.int .i64 d9)) = w47
       replace a8 : yas (Kd.R k23 23 w47 w.heap.size (fun k_ => some k_ ≠ (.slice d2 b7.length d3 : Value).ownBlock ∧ some k_ ≠ (.slice b8 b4.length b9 : Value).ownBlock) (.slice d0 b2.length c9) b2) := ⟨by subst hg_; (with_reducible repeat (first | apply yam | apply yan | apply yak)); exact yap (yah (p := ⟨a9, 2, none⟩) (yah (p := ⟨a9, 1, none⟩) (yah (p := ⟨a9, 0, none⟩) (yao a8.out a4.out (by decide)) (fun _ hk => hk.2) (.slice b8 b4.length b9)) (fun _ hk => hk.2) (.string d6)) (fun _ hk => hk.2) (.int .i64 d9)) (fun _ hk => ⟨hk.1.1.2, hk.1.2⟩)⟩
       replace b0 : yas (Kd.R k23 23 w47 w.heap.size (fun k_ => some k_ ≠ (.slice d0 b2.length c9 : Value).ownBlock ∧ some k_ ≠ (.slice b8 b4.length b9 : Value).ownBlock) (.slice d2 b7.length d3) b7) := ⟨by subst hg_; (with_reducible repeat (first | apply yam | apply yan | apply yak)); exact yap (yah (p := ⟨a9, 2, none⟩) (yah (p := ⟨a9, 1, none⟩) (yah (p := ⟨a9, 0, none⟩) (yao b0.out a4.out (by decide)) (fun _ hk => hk.2) (.slice b8 b4.length b9)) (fun _ hk => hk.2) (.string d6)) (fun _ hk => hk.2) (.int .i64 d9)) (fun _ hk => ⟨hk.1.1.2, hk.1.2⟩)⟩
       replace b1 : yas (Kd.R k23 23 w47 w.heap.size (fun k_ => some k_ ≠ (.slice d0 b2.length c9 : Value).ownBlock ∧ some k_ ≠ (.slice d2 b7.length d3 : Value).ownBlock) (.slice b8 b4.length b9) b4) := ⟨by subst hg_; (with_reducible repeat (first | apply yam | apply yan | apply yak)); exact yap (yah (p := ⟨a9, 2, none⟩) (yah (p := ⟨a9, 1, none⟩) (yah (p := ⟨a9, 0, none⟩) (yao b1.out a4.out (by decide)) (fun _ hk => hk.2) (.slice b8 b4.length b9)) (fun _ hk => hk.2) (.string d6)) (fun _ hk => hk.2) (.int .i64 d9)) (fun _ hk => ⟨hk.1.1.2, hk.1.2⟩)⟩
       replace a2 : yas (w47.heap[d1]? = some (.cells #[.slice d0 b2.length c9, .string d4, .int .i64 d5] 37 (0, 0))) := ⟨by subst hg_; (repeat refine oneB ?_); refine yau ?_ b6.out _; (repeat refine oneB ?_); refine yau ?_ b6.out _; (repeat refine oneB ?_); refine yau ?_ b6.out _; exact upB a2.out⟩; replace a3 : yas (w47.heap[c8]? = some (.cells #[.slice d2 b7.length d3, .string e0, .int .i64 e1] 37 (0, 0))) := ⟨by subst hg_; (repeat refine oneB ?_); refine yau ?_ b5.out _; (repeat refine oneB ?_); refine yau ?_ b5.out _; (repeat refine oneB ?_); refine yau ?_ b5.out _; exact upB a3.out⟩; replace a4 : yas (w47.heap[a9]? = some (.cells #[.slice b8 b4.length b9, .string d6, .int .i64 d9] 37 (0, 0))) := ⟨by subst hg_; (repeat refine oneB ?_); refine blk_put (cs := #[.slice b8 b4.length b9, .string d6, .int .i64 0]) ?_ 2 _ rfl; refine blk_put (cs := #[.slice b8 b4.length b9, .string (⟨#[]⟩ : ByteArray), .int .i64 0]) ?_ 1 _ rfl; refine blk_put (cs := #[.slice none 0 0, .string (⟨#[]⟩ : ByteArray), .int .i64 0]) ?_ 0 _ rfl; exact upB a4.out⟩
       replace HB : yas (Below w.heap.size w w47) := ⟨by subst hg_; repeat (with_reducible first | exact HB.out | apply yag | apply yab | apply yae | refine yaj ?_ (Aside0.out ‹_›))⟩
       clear hg_; replace a8 := yaa (yak a8.out); replace b0 := yaa (yak b0.out); replace b1 := yaa (yak b1.out); replace a2 := yaa (blk_drew a2.out); replace a3 := yaa (blk_drew a3.out); replace a4 := yaa (blk_drew a4.out); replace HB := yaa (yae HB.out)
       refine start_ (n := 22) (S := fun w' => w'.cell? ⟨d1, 0, none⟩ = some (.slice d0 b2.length c9) ∧ w'.cell? ⟨d1, 1, none⟩ = some (.string d4) ∧ w'.cell? ⟨d1, 2, none⟩ = some (.int .i64 d5) ∧ w'.cell? ⟨c8, 0, none⟩ = some (.slice d2 b7.length d3) ∧ w'.cell? ⟨c8, 1, none⟩ = some (.string e0) ∧ w'.cell? ⟨c8, 2, none⟩ = some (.int .i64 e1) ∧ w'.cell? ⟨a9, 0, none⟩ = some (.slice b8 b4.length b9) ∧ w'.cell? ⟨a9, 1, none⟩ = some (.string d6) ∧ w'.cell? ⟨a9, 2, none⟩ = some (.int .i64 d9)) (ds := []) q6_0 (by kernel_rfl) rfl rfl ⟨(yad a2.out 0).trans rfl, (yad a2.out 1).trans rfl, (yad a2.out 2).trans rfl, (yad a3.out 0).trans rfl, (yad a3.out 1).trans rfl, (yad a3.out 2).trans rfl, (yad a4.out 0).trans rfl, (yad a4.out 1).trans rfl, (yad a4.out 2).trans rfl⟩ (fun hHeld => ?_); refine with_tabW laws_FnAskText.tab8 laws_FnAskText.bits8 (fun HT_ HW_ => ?_)
       generalize w47.drew = w48 at a8 b0 b1 a2 a3 a4 HB hHeld ⊢
       refine pz_ 0 38 q6_1 HT_ (by kernel_rfl) ?_
       refine tz_ 1 39 q6_2 HT_ HW_ (by kernel_rfl) hHeld ?_
       refine one_ (i := 2) (N := some 40) q6_3 rfl rfl (one_of HT_.out (by kernel_rfl)) (by decide) (fun K hK => ?_)
       refine goes_ Tryd.func25 (by kernel_rfl) rfl #[.agg #[.slice d0 b2.length c9, .string d4, .int .i64 d5]] (by rfl) rfl rfl (by (try simp only [List.map_toArray, List.map_cons, List.map_nil]); first | done | rfl | (simp only [List.length_drop, List.length_take]; rfl)) ?_
       with_reducible refine (spec_AskText.calls kj2 _ _ b2 d4 d5 h5 _ ?side1 ?side2 A30.out).mono ?_
       (case side1 => repeat (first | exact (yai a8.out).2.2 | (with_reducible refine yaq ?_ _) | (with_reducible refine yar ?_ _) | (with_reducible refine yat ?_)))
       (case side2 => exact (yai a8.out).2.1)
       rintro e w49 ⟨rfl, hb⟩; refine ⟨_, rfl, ?_⟩; have n0_ := yaa (yac (upR a8.out) hb); have n1_ := yaa (yac (upR b0.out) hb); have n2_ := yaa (yac (upR b1.out) hb); have n3_ := yaa (yaf (upB a2.out) hb); have n4_ := yaa (yaf (upB a3.out) hb); have n5_ := yaa (yaf (upB a4.out) hb)
       have n6_ := yaa (yal (by repeat (with_reducible first | exact HB.out | apply yag | apply yab | apply yae | refine yaj ?_ (Aside0.out ‹_›))) hb)
       clear a8; clear b0; clear b1; clear a2; clear a3; clear a4; clear HB; have a8 := n0_; have b0 := n1_; have b1 := n2_; have a2 := n3_; have a3 := n4_; have a4 := n5_; have HB := n6_; clear n0_ n1_ n2_ n3_ n4_ n5_ n6_; (try clear hb); (try clear hb2); (try clear hk); (try clear hi)
       refine hK.out _ _ ⟨(yad a2.out 0).trans rfl, (yad a2.out 1).trans rfl, (yad a2.out 2).trans rfl, (yad a3.out 0).trans rfl, (yad a3.out 1).trans rfl, (yad a3.out 2).trans rfl, (yad a4.out 0).trans rfl, (yad a4.out 1).trans rfl, (yad a4.out 2).trans rfl⟩ (fun hHeld => ?_)
       clear hK K
       refine norm_ (a' := ?_) ?_ ?_
       rotate_left
       ·
        show Act.put _ (some 40) _ = _
        simp only [Act.put, List.setIfInBounds_toArray, List.set_cons_zero, List.set_cons_succ, i64_w, i32_w]
        rfl
       refine pz_ 3 41 q6_4 HT_ (by kernel_rfl) ?_
       refine pz_ 4 42 q6_5 HT_ (by kernel_rfl) ?_
       refine tz_ 5 43 q6_6 HT_ HW_ (by kernel_rfl) hHeld ?_
       refine tz_ 6 44 q6_7 HT_ HW_ (by kernel_rfl) hHeld ?_
       refine one_ (i := 7) (N := some 45) q6_8 rfl rfl (one_of HT_.out (by kernel_rfl)) (by decide) (fun K hK => ?_)
       refine goes_ Tryd.func26 (by kernel_rfl) rfl #[.agg #[.slice d2 b7.length d3, .string e0, .int .i64 e1], .agg #[.slice b8 b4.length b9, .string d6, .int .i64 d9]] (by rfl) rfl rfl (by (try simp only [List.map_toArray, List.map_cons, List.map_nil]); first | done | rfl | (simp only [List.length_drop, List.length_take]; rfl)) ?_
       with_reducible refine (laws_eaAsk.calls kj2 _ _ b7 e0 e1 _ _ b4 d6 d9 false _ ?side1 ?side2 ?side3 ?side4 A32.out).mono ?_
       (case side1 => repeat (first | exact (yai b0.out).2.2 | (with_reducible refine yaq ?_ _) | (with_reducible refine yar ?_ _) | (with_reducible refine yat ?_)))
       (case side2 => exact (yai b0.out).2.1)
       (case side3 => repeat (first | exact (yai b1.out).2.2 | (with_reducible refine yaq ?_ _) | (with_reducible refine yar ?_ _) | (with_reducible refine yat ?_)))
       (case side4 => exact (yai b1.out).2.1)
       rintro e w50 ⟨rfl, hb⟩; refine ⟨_, rfl, ?_⟩; have n0_ := yaa (yac (upR a8.out) hb); have n1_ := yaa (yac (upR b0.out) hb); have n2_ := yaa (yac (upR b1.out) hb); have n3_ := yaa (yaf (upB a2.out) hb); have n4_ := yaa (yaf (upB a3.out) hb); have n5_ := yaa (yaf (upB a4.out) hb)
       have n6_ := yaa (yal (by repeat (with_reducible first | exact HB.out | apply yag | apply yab | apply yae | refine yaj ?_ (Aside0.out ‹_›))) hb)
       clear a8; clear b0; clear b1; clear a2; clear a3; clear a4; clear HB; have a8 := n0_; have b0 := n1_; have b1 := n2_; have a2 := n3_; have a3 := n4_; have a4 := n5_; have HB := n6_; clear n0_ n1_ n2_ n3_ n4_ n5_ n6_; (try clear hb); (try clear hb2); (try clear hk); (try clear hi)
       refine hK.out _ _ ⟨(yad a2.out 0).trans rfl, (yad a2.out 1).trans rfl, (yad a2.out 2).trans rfl, (yad a3.out 0).trans rfl, (yad a3.out 1).trans rfl, (yad a3.out 2).trans rfl, (yad a4.out 0).trans rfl, (yad a4.out 1).trans rfl, (yad a4.out 2).trans rfl⟩ (fun hHeld => ?_)
       clear hK K
       refine norm_ (a' := ?_) ?_ ?_
       rotate_left
       ·
        show Act.put _ (some 45) _ = _
        simp only [Act.put, List.setIfInBounds_toArray, List.set_cons_zero, List.set_cons_succ, i64_w, i32_w]
        rfl
       refine pz_ 8 46 q6_9 HT_ (by kernel_rfl) ?_
       refine pz_ 9 47 q6_10 HT_ (by kernel_rfl) ?_
       refine pz_ 10 48 q6_11 HT_ (by kernel_rfl) ?_
       refine pu_ 11 49 q6_12 HT_ (by kernel_rfl) ?_
       refine pu_ 12 50 q6_13 HT_ (by kernel_rfl) ?_
       refine pu_ 13 51 q6_14 HT_ (by kernel_rfl) ?_
       refine pz_ 14 52 q6_15 HT_ (by kernel_rfl) ?_
       refine pz_ 15 53 q6_16 HT_ (by kernel_rfl) ?_
       refine pu_ 16 54 q6_17 HT_ (by kernel_rfl) ?_
       refine pu_ 17 55 q6_18 HT_ (by kernel_rfl) ?_
       refine pu_ 18 56 q6_19 HT_ (by kernel_rfl) ?_
       refine pu_ 19 57 q6_20 HT_ (by kernel_rfl) ?_
       refine pu_ 20 58 q6_21 HT_ (by kernel_rfl) ?_
       refine pz_ 21 59 q6_22 HT_ (by kernel_rfl) ?_
       refine done_ (done_of HT_.out (by kernel_rfl)) ?_
       try go_wp2
       go_meet
       case rel => exact ⟨_, (true), (by first | rfl | (simp; done) | (simp [*]; done)), H', ⟨by have := HJ2.out; first | omega | exact Nat.le_refl _⟩, ⟨by first | exact a8.out | exact upR a8.out⟩, ⟨by first | exact b0.out | exact upR b0.out⟩, ⟨by first | exact b1.out | exact upR b1.out⟩, ⟨by exact upB a2.out⟩, ⟨by exact upB a3.out⟩, ⟨by exact upB a4.out⟩, ⟨by repeat (with_reducible first | exact HB.out | apply yag | apply yab | apply yae | refine yaj ?_ (Aside0.out ‹_›))⟩⟩
     ·
      rw [if_neg c31] at H
      have g0 := beq_eq_false_iff_ne.mpr c31; have h6 := bne_iff_ne.mpr c31
      (first | rw [g0] | (simp only [i64_w, i32_w]; rw [g0]) | skip)
      have H' := yaa H; clear H
      try go_wp2
      generalize hg_ : (((w25.setCell ⟨a9, 0, none⟩ (.slice b8 b4.length b9)).setCell ⟨a9, 1, none⟩ (.string d6)).setCell ⟨a9, 2, none⟩ (.int .i64 d9)) = w51
      replace a8 : yas (Kd.R k23 23 w51 w.heap.size (fun k_ => some k_ ≠ (.slice d2 b7.length d3 : Value).ownBlock ∧ some k_ ≠ (.slice b8 b4.length b9 : Value).ownBlock) (.slice d0 b2.length c9) b2) := ⟨by subst hg_; (with_reducible repeat (first | apply yam | apply yan | apply yak)); exact yap (yah (p := ⟨a9, 2, none⟩) (yah (p := ⟨a9, 1, none⟩) (yah (p := ⟨a9, 0, none⟩) (yao a8.out a4.out (by decide)) (fun _ hk => hk.2) (.slice b8 b4.length b9)) (fun _ hk => hk.2) (.string d6)) (fun _ hk => hk.2) (.int .i64 d9)) (fun _ hk => ⟨hk.1.1.2, hk.1.2⟩)⟩
      replace b0 : yas (Kd.R k23 23 w51 w.heap.size (fun k_ => some k_ ≠ (.slice d0 b2.length c9 : Value).ownBlock ∧ some k_ ≠ (.slice b8 b4.length b9 : Value).ownBlock) (.slice d2 b7.length d3) b7) := ⟨by subst hg_; (with_reducible repeat (first | apply yam | apply yan | apply yak)); exact yap (yah (p := ⟨a9, 2, none⟩) (yah (p := ⟨a9, 1, none⟩) (yah (p := ⟨a9, 0, none⟩) (yao b0.out a4.out (by decide)) (fun _ hk => hk.2) (.slice b8 b4.length b9)) (fun _ hk => hk.2) (.string d6)) (fun _ hk => hk.2) (.int .i64 d9)) (fun _ hk => ⟨hk.1.1.2, hk.1.2⟩)⟩
      replace b1 : yas (Kd.R k23 23 w51 w.heap.size (fun k_ => some k_ ≠ (.slice d0 b2.length c9 : Value).ownBlock ∧ some k_ ≠ (.slice d2 b7.length d3 : Value).ownBlock) (.slice b8 b4.length b9) b4) := ⟨by subst hg_; (with_reducible repeat (first | apply yam | apply yan | apply yak)); exact yap (yah (p := ⟨a9, 2, none⟩) (yah (p := ⟨a9, 1, none⟩) (yah (p := ⟨a9, 0, none⟩) (yao b1.out a4.out (by decide)) (fun _ hk => hk.2) (.slice b8 b4.length b9)) (fun _ hk => hk.2) (.string d6)) (fun _ hk => hk.2) (.int .i64 d9)) (fun _ hk => ⟨hk.1.1.2, hk.1.2⟩)⟩
      replace a2 : yas (w51.heap[d1]? = some (.cells #[.slice d0 b2.length c9, .string d4, .int .i64 d5] 37 (0, 0))) := ⟨by subst hg_; (repeat refine oneB ?_); refine yau ?_ b6.out _; (repeat refine oneB ?_); refine yau ?_ b6.out _; (repeat refine oneB ?_); refine yau ?_ b6.out _; exact upB a2.out⟩; replace a3 : yas (w51.heap[c8]? = some (.cells #[.slice d2 b7.length d3, .string e0, .int .i64 e1] 37 (0, 0))) := ⟨by subst hg_; (repeat refine oneB ?_); refine yau ?_ b5.out _; (repeat refine oneB ?_); refine yau ?_ b5.out _; (repeat refine oneB ?_); refine yau ?_ b5.out _; exact upB a3.out⟩; replace a4 : yas (w51.heap[a9]? = some (.cells #[.slice b8 b4.length b9, .string d6, .int .i64 d9] 37 (0, 0))) := ⟨by subst hg_; (repeat refine oneB ?_); refine blk_put (cs := #[.slice b8 b4.length b9, .string d6, .int .i64 0]) ?_ 2 _ rfl; refine blk_put (cs := #[.slice b8 b4.length b9, .string (⟨#[]⟩ : ByteArray), .int .i64 0]) ?_ 1 _ rfl; refine blk_put (cs := #[.slice none 0 0, .string (⟨#[]⟩ : ByteArray), .int .i64 0]) ?_ 0 _ rfl; exact upB a4.out⟩
      replace HB : yas (Below w.heap.size w w51) := ⟨by subst hg_; repeat (with_reducible first | exact HB.out | apply yag | apply yab | apply yae | refine yaj ?_ (Aside0.out ‹_›))⟩
      clear hg_; replace a8 := yaa (yak a8.out); replace b0 := yaa (yak b0.out); replace b1 := yaa (yak b1.out); replace a2 := yaa (blk_drew a2.out); replace a3 := yaa (blk_drew a3.out); replace a4 := yaa (blk_drew a4.out); replace HB := yaa (yae HB.out)
      refine start_ (n := 22) (S := fun w' => w'.cell? ⟨d1, 0, none⟩ = some (.slice d0 b2.length c9) ∧ w'.cell? ⟨d1, 1, none⟩ = some (.string d4) ∧ w'.cell? ⟨d1, 2, none⟩ = some (.int .i64 d5)) (ds := []) q6_0 (by kernel_rfl) rfl rfl ⟨(yad a2.out 0).trans rfl, (yad a2.out 1).trans rfl, (yad a2.out 2).trans rfl⟩ (fun hHeld => ?_); refine with_tabW laws_FnAskText.tab8 laws_FnAskText.bits8 (fun HT_ HW_ => ?_)
      generalize w51.drew = w52 at a8 b0 b1 a2 a3 a4 HB hHeld ⊢
      refine pz_ 0 38 q6_1 HT_ (by kernel_rfl) ?_
      refine tz_ 1 39 q6_2 HT_ HW_ (by kernel_rfl) hHeld ?_
      refine one_ (i := 2) (N := some 40) q6_3 rfl rfl (one_of HT_.out (by kernel_rfl)) (by decide) (fun K hK => ?_)
      refine goes_ Tryd.func25 (by kernel_rfl) rfl #[.agg #[.slice d0 b2.length c9, .string d4, .int .i64 d5]] (by rfl) rfl rfl (by (try simp only [List.map_toArray, List.map_cons, List.map_nil]); first | done | rfl | (simp only [List.length_drop, List.length_take]; rfl)) ?_
      with_reducible refine (spec_AskText.calls kj2 _ _ b2 d4 d5 h5 _ ?side1 ?side2 A30.out).mono ?_
      (case side1 => repeat (first | exact (yai a8.out).2.2 | (with_reducible refine yaq ?_ _) | (with_reducible refine yar ?_ _) | (with_reducible refine yat ?_)))
      (case side2 => exact (yai a8.out).2.1)
      rintro e w53 ⟨rfl, hb⟩; refine ⟨_, rfl, ?_⟩; have n0_ := yaa (yac (upR a8.out) hb); have n1_ := yaa (yac (upR b0.out) hb); have n2_ := yaa (yac (upR b1.out) hb); have n3_ := yaa (yaf (upB a2.out) hb); have n4_ := yaa (yaf (upB a3.out) hb); have n5_ := yaa (yaf (upB a4.out) hb)
      have n6_ := yaa (yal (by repeat (with_reducible first | exact HB.out | apply yag | apply yab | apply yae | refine yaj ?_ (Aside0.out ‹_›))) hb)
      clear a8; clear b0; clear b1; clear a2; clear a3; clear a4; clear HB; have a8 := n0_; have b0 := n1_; have b1 := n2_; have a2 := n3_; have a3 := n4_; have a4 := n5_; have HB := n6_; clear n0_ n1_ n2_ n3_ n4_ n5_ n6_; (try clear hb); (try clear hb2); (try clear hk); (try clear hi)
      refine hK.out _ _ ⟨(yad a2.out 0).trans rfl, (yad a2.out 1).trans rfl, (yad a2.out 2).trans rfl⟩ (fun hHeld => ?_)
      clear hK K
      refine norm_ (a' := ?_) ?_ ?_
      rotate_left
      ·
       show Act.put _ (some 40) _ = _
       simp only [Act.put, List.setIfInBounds_toArray, List.set_cons_zero, List.set_cons_succ, i64_w, i32_w]
       rfl
      refine pz_ 3 41 q6_4 HT_ (by kernel_rfl) ?_
      refine pz_ 4 42 q6_5 HT_ (by kernel_rfl) ?_
      refine pu_ 5 43 q6_6 HT_ (by kernel_rfl) ?_
      refine pu_ 6 44 q6_7 HT_ (by kernel_rfl) ?_
      refine pu_ 7 45 q6_8 HT_ (by kernel_rfl) ?_
      refine pu_ 8 46 q6_9 HT_ (by kernel_rfl) ?_
      refine pz_ 9 47 q6_10 HT_ (by kernel_rfl) ?_
      refine pz_ 10 48 q6_11 HT_ (by kernel_rfl) ?_
      refine pu_ 11 49 q6_12 HT_ (by kernel_rfl) ?_
      refine pu_ 12 50 q6_13 HT_ (by kernel_rfl) ?_
      refine pu_ 13 51 q6_14 HT_ (by kernel_rfl) ?_
      refine pz_ 14 52 q6_15 HT_ (by kernel_rfl) ?_
      refine pz_ 15 53 q6_16 HT_ (by kernel_rfl) ?_
      refine pu_ 16 54 q6_17 HT_ (by kernel_rfl) ?_
      refine pu_ 17 55 q6_18 HT_ (by kernel_rfl) ?_
      refine pu_ 18 56 q6_19 HT_ (by kernel_rfl) ?_
      refine pu_ 19 57 q6_20 HT_ (by kernel_rfl) ?_
      refine pu_ 20 58 q6_21 HT_ (by kernel_rfl) ?_
      refine pz_ 21 59 q6_22 HT_ (by kernel_rfl) ?_
      refine done_ (done_of HT_.out (by kernel_rfl)) ?_
      try go_wp2
      go_meet
      case rel => exact ⟨_, (true), (by first | rfl | (simp; done) | (simp [*]; done)), H', ⟨by have := HJ2.out; first | omega | exact Nat.le_refl _⟩, ⟨by first | exact a8.out | exact upR a8.out⟩, ⟨by first | exact b0.out | exact upR b0.out⟩, ⟨by first | exact b1.out | exact upR b1.out⟩, ⟨by exact upB a2.out⟩, ⟨by exact upB a3.out⟩, ⟨by exact upB a4.out⟩, ⟨by repeat (with_reducible first | exact HB.out | apply yag | apply yab | apply yae | refine yaj ?_ (Aside0.out ‹_›))⟩⟩
    case rest =>
     clear HC11; (try clear c2); (try clear p2); (try clear c3); (try clear c25); (try clear c26); (try clear c27); (try clear c28); (try clear c31); (try clear g0); (try clear h6); (try clear c33); obtain ⟨kq, g6, rfl, HA, HJ10, a5, a6, a7, a2, a3, a4, HB⟩ := hcut
     cases kq with
     | zero => exact absurd HA.out (by simp [laws_FnAskText.j1])
     | succ kj10 =>
      have H := HA.out; clear HA
      simp only [laws_FnAskText.j1] at H
      by_cases c54 : g6 = true
      ·
       subst c54
       rw [if_pos rfl] at H
       rw [hrt] at H
       exact absurd H (by simp)
      ·
       replace c54 := Bool.eq_false_iff.mpr c54
       subst c54
       rw [if_neg (show ¬ (false = true) by decide)] at H
       have HC55 := yaa H; clear H
       go_upto_region 10 with (fail)
       go_cut [80] (fun v80 wc => ∃ (kq : Nat) (g7 : Bool), v80 = .bool g7 ∧ yas (laws_FnAskText.j2 kq g9 g4 f5 g7 b2 d4 d5 b7 e0 e1 = some r) ∧ yas (kq ≤ kj10) ∧ yas (Kd.R k23 23 wc w.heap.size (fun k_ => some k_ ≠ ((.slice d2 b7.length d3) : Value).ownBlock ∧ some k_ ≠ ((.slice b8 b4.length b9) : Value).ownBlock) (.slice d0 b2.length c9) b2) ∧ yas (Kd.R k23 23 wc w.heap.size (fun k_ => some k_ ≠ ((.slice d0 b2.length c9) : Value).ownBlock ∧ some k_ ≠ ((.slice b8 b4.length b9) : Value).ownBlock) (.slice d2 b7.length d3) b7) ∧ yas (Kd.R k23 23 wc w.heap.size (fun k_ => some k_ ≠ ((.slice d0 b2.length c9) : Value).ownBlock ∧ some k_ ≠ ((.slice d2 b7.length d3) : Value).ownBlock) (.slice b8 b4.length b9) b4) ∧ yas (wc.heap[d1]? = some (.cells #[(.slice d0 b2.length c9), .string d4, .int .i64 d5] 37 (0, 0))) ∧ yas (wc.heap[c8]? = some (.cells #[(.slice d2 b7.length d3), .string e0, .int .i64 e1] 37 (0, 0))) ∧ yas (wc.heap[a9]? = some (.cells #[(.slice b8 b4.length b9), .string d6, .int .i64 d9] 37 (0, 0))) ∧ yas (Below w.heap.size w wc))
       case first =>
        have H := HC55.out; clear HC55
        by_cases c56 : f5 = true
        ·
         subst c56
         rw [if_pos rfl] at H
         obtain ⟨v8, A57, H⟩ := bindA H; (try dsimp only at H)
         by_cases c58 : v8 = true
         ·
          subst c58
          rw [if_pos rfl] at H
          obtain ⟨m0, A59, H⟩ := bindA H; (try dsimp only at H)
          by_cases c60 : m0.toList = g9.toList
          ·
           rw [if_pos c60] at H
           have g3 := beq_iff_eq.mpr c60; have l9 := bne_eq_false_iff_eq.mpr c60; clear c60
           (first | rw [g3] | (simp only [i64_w, i32_w]; rw [g3]) | skip)
           have H' := yaa H; clear H; have B9 := e2.out; have C0 := d7.out; have C1 := b5.out; have C2 := e8.out; obtain ⟨h8, h9, i0⟩ := cc3_ a3.out; obtain ⟨i1, i2, i3⟩ := cf3_ a3.out
           go_wp2_with (first | (go_at_call 27; (with_reducible refine (impl_AskOk.calls kj10 _ _ b7 e0 e1 true _ ?side1 ?side2 A57.out).mono ?_); (case side1 => repeat (first | exact (yai a6.out).2.2 | (with_reducible refine yaq ?_ _) | (with_reducible refine yar ?_ _) | (with_reducible refine yat ?_))); (case side2 => exact (yai a6.out).2.1); rintro e w64 ⟨rfl, hb⟩; replace a5 := yaa (yac (upR a5.out) hb); replace a6 := yaa (yac (upR a6.out) hb); replace a7 := yaa (yac (upR a7.out) hb); replace a2 := yaa (yaf (upB a2.out) hb); replace a3 := yaa (yaf (upB a3.out) hb); replace a4 := yaa (yaf (upB a4.out) hb); replace HB := yaa (yal (by repeat (with_reducible first | exact HB.out | apply yag | apply yab | apply yae | refine yaj ?_ (Aside0.out ‹_›))) hb); (try clear hb); obtain ⟨i4, i5, i6⟩ := cc3_ a3.out; obtain ⟨i7, i8⟩ := cf2_ a3.out; have i9 := blk_frozen a3.out 2) | (go_at_call 24; (with_reducible refine (impl_AskText.calls kj10 _ _ b7 e0 e1 m0 _ ?side1 ?side2 A59.out ?sideG).mono ?_); (case sideG => exact Glob.belowW HG.out (by repeat (first | (with_reducible first | exact HB.out | apply yag | apply yab | apply yae | refine yaj ?_ (Aside0.out ‹_›)) | exact HB.out | exact Below.refl _ _))); (case side1 => repeat (first | exact (yai a6.out).2.2 | (with_reducible refine yaq ?_ _) | (with_reducible refine yar ?_ _) | (with_reducible refine yat ?_))); (case side2 => exact (yai a6.out).2.1); rintro e w66 ⟨rfl, hb⟩; replace a5 := yaa (yac (upR a5.out) hb); replace a6 := yaa (yac (upR a6.out) hb); replace a7 := yaa (yac (upR a7.out) hb); replace a2 := yaa (yaf (upB a2.out) hb); replace a3 := yaa (yaf (upB a3.out) hb); replace a4 := yaa (yaf (upB a4.out) hb); replace HB := yaa (yal (by repeat (with_reducible first | exact HB.out | apply yag | apply yab | apply yae | refine yaj ?_ (Aside0.out ‹_›))) hb); (try clear hb)))
           go_meet
           case rel => exact ⟨_, (false), (by first | rfl | (simp; done) | (simp [*]; done)), H', ⟨by have := HJ2.out; have := HJ10.out; first | omega | exact Nat.le_refl _⟩, ⟨by first | exact a5.out | exact upR a5.out⟩, ⟨by first | exact a6.out | exact upR a6.out⟩, ⟨by first | exact a7.out | exact upR a7.out⟩, ⟨by exact upB a2.out⟩, ⟨by exact upB a3.out⟩, ⟨by exact upB a4.out⟩, ⟨by repeat (with_reducible first | exact HB.out | apply yag | apply yab | apply yae | refine yaj ?_ (Aside0.out ‹_›))⟩⟩
          ·
           rw [if_neg c60] at H
           have g3 := beq_eq_false_iff_ne.mpr c60; have l9 := bne_iff_ne.mpr c60
           (first | rw [g3] | (simp only [i64_w, i32_w]; rw [g3]) | skip)
           have H' := yaa H; clear H; have C3 := e2.out; have C4 := d7.out; have C5 := b5.out; have C6 := e8.out; obtain ⟨j3, j4, j5⟩ := cc3_ a3.out; obtain ⟨j6, j7, j8⟩ := cf3_ a3.out
           go_wp2_with (first | (go_at_call 27; (with_reducible refine (impl_AskOk.calls kj10 _ _ b7 e0 e1 true _ ?side1 ?side2 A57.out).mono ?_); (case side1 => repeat (first | exact (yai a6.out).2.2 | (with_reducible refine yaq ?_ _) | (with_reducible refine yar ?_ _) | (with_reducible refine yat ?_))); (case side2 => exact (yai a6.out).2.1); rintro e w70 ⟨rfl, hb⟩; replace a5 := yaa (yac (upR a5.out) hb); replace a6 := yaa (yac (upR a6.out) hb); replace a7 := yaa (yac (upR a7.out) hb); replace a2 := yaa (yaf (upB a2.out) hb); replace a3 := yaa (yaf (upB a3.out) hb); replace a4 := yaa (yaf (upB a4.out) hb); replace HB := yaa (yal (by repeat (with_reducible first | exact HB.out | apply yag | apply yab | apply yae | refine yaj ?_ (Aside0.out ‹_›))) hb); (try clear hb); obtain ⟨j9, k0, k1⟩ := cc3_ a3.out; obtain ⟨k2, k3⟩ := cf2_ a3.out; have k4 := blk_frozen a3.out 2) | (go_at_call 24; (with_reducible refine (impl_AskText.calls kj10 _ _ b7 e0 e1 m0 _ ?side1 ?side2 A59.out ?sideG).mono ?_); (case sideG => exact Glob.belowW HG.out (by repeat (first | (with_reducible first | exact HB.out | apply yag | apply yab | apply yae | refine yaj ?_ (Aside0.out ‹_›)) | exact HB.out | exact Below.refl _ _))); (case side1 => repeat (first | exact (yai a6.out).2.2 | (with_reducible refine yaq ?_ _) | (with_reducible refine yar ?_ _) | (with_reducible refine yat ?_))); (case side2 => exact (yai a6.out).2.1); rintro e w72 ⟨rfl, hb⟩; replace a5 := yaa (yac (upR a5.out) hb); replace a6 := yaa (yac (upR a6.out) hb); replace a7 := yaa (yac (upR a7.out) hb); replace a2 := yaa (yaf (upB a2.out) hb); replace a3 := yaa (yaf (upB a3.out) hb); replace a4 := yaa (yaf (upB a4.out) hb); replace HB := yaa (yal (by repeat (with_reducible first | exact HB.out | apply yag | apply yab | apply yae | refine yaj ?_ (Aside0.out ‹_›))) hb); (try clear hb)))
           go_meet
           case rel => exact ⟨_, (true), (by first | rfl | (simp; done) | (simp [*]; done)), H', ⟨by have := HJ2.out; have := HJ10.out; first | omega | exact Nat.le_refl _⟩, ⟨by first | exact a5.out | exact upR a5.out⟩, ⟨by first | exact a6.out | exact upR a6.out⟩, ⟨by first | exact a7.out | exact upR a7.out⟩, ⟨by exact upB a2.out⟩, ⟨by exact upB a3.out⟩, ⟨by exact upB a4.out⟩, ⟨by repeat (with_reducible first | exact HB.out | apply yag | apply yab | apply yae | refine yaj ?_ (Aside0.out ‹_›))⟩⟩
         ·
          replace c58 := Bool.eq_false_iff.mpr c58
          subst c58
          rw [if_neg (show ¬ (false = true) by decide)] at H
          have H' := yaa H; clear H; have C7 := e2.out; have C8 := d7.out; have C9 := b5.out; have D0 := e8.out; obtain ⟨k5, k6, k7⟩ := cc3_ a3.out; obtain ⟨k8, k9, l2⟩ := cf3_ a3.out
          go_wp2_with (first | (go_at_call 27; (with_reducible refine (impl_AskOk.calls kj10 _ _ b7 e0 e1 false _ ?side1 ?side2 A57.out).mono ?_); (case side1 => repeat (first | exact (yai a6.out).2.2 | (with_reducible refine yaq ?_ _) | (with_reducible refine yar ?_ _) | (with_reducible refine yat ?_))); (case side2 => exact (yai a6.out).2.1); rintro e w76 ⟨rfl, hb⟩; replace a5 := yaa (yac (upR a5.out) hb); replace a6 := yaa (yac (upR a6.out) hb); replace a7 := yaa (yac (upR a7.out) hb); replace a2 := yaa (yaf (upB a2.out) hb); replace a3 := yaa (yaf (upB a3.out) hb); replace a4 := yaa (yaf (upB a4.out) hb); replace HB := yaa (yal (by repeat (with_reducible first | exact HB.out | apply yag | apply yab | apply yae | refine yaj ?_ (Aside0.out ‹_›))) hb); (try clear hb)))
          go_meet
          case rel => exact ⟨_, (true), (by first | rfl | (simp; done) | (simp [*]; done)), H', ⟨by have := HJ2.out; have := HJ10.out; first | omega | exact Nat.le_refl _⟩, ⟨by first | exact a5.out | exact upR a5.out⟩, ⟨by first | exact a6.out | exact upR a6.out⟩, ⟨by first | exact a7.out | exact upR a7.out⟩, ⟨by exact upB a2.out⟩, ⟨by exact upB a3.out⟩, ⟨by exact upB a4.out⟩, ⟨by repeat (with_reducible first | exact HB.out | apply yag | apply yab | apply yae | refine yaj ?_ (Aside0.out ‹_›))⟩⟩
        ·
         replace c56 := Bool.eq_false_iff.mpr c56
         subst c56
         rw [if_neg (show ¬ (false = true) by decide)] at H
         have H' := yaa H; clear H; have D1 := e2.out; have D2 := d7.out; have D3 := b5.out; have D4 := e8.out; obtain ⟨l3, l4, l5⟩ := cc3_ a3.out; obtain ⟨l6, l7, l8⟩ := cf3_ a3.out
         go_wp2
         go_meet
         case rel => exact ⟨_, ((e0.toList != ([] : List UInt8))), (by first | rfl | (simp; done) | (simp [*]; done) | (cases hh_ : e0.toList <;> simp [hh_])), H', ⟨by have := HJ2.out; have := HJ10.out; first | omega | exact Nat.le_refl _⟩, ⟨by first | exact a5.out | exact upR a5.out⟩, ⟨by first | exact a6.out | exact upR a6.out⟩, ⟨by first | exact a7.out | exact upR a7.out⟩, ⟨by exact upB a2.out⟩, ⟨by exact upB a3.out⟩, ⟨by exact upB a4.out⟩, ⟨by repeat (with_reducible first | exact HB.out | apply yag | apply yab | apply yae | refine yaj ?_ (Aside0.out ‹_›))⟩⟩
       case rest =>
        clear HC55; (try clear c2); (try clear p2); (try clear c3); (try clear c5); (try clear c6); (try clear c7); (try clear c25); (try clear c26); (try clear c27); (try clear c28); (try clear c31); (try clear g0); (try clear h6); (try clear c33); (try clear c54); (try clear c56); (try clear c58); (try clear c60); (try clear g3); (try clear l9); (try clear c61); (try clear c62); (try clear c67); (try clear c68); (try clear c73); (try clear c74); (try clear c77); (try clear c78); (try clear h8); (try clear h9); (try clear i0); (try clear i4); (try clear i5); (try clear i6); (try clear j3); (try clear j4); (try clear j5); (try clear j9); (try clear k0); (try clear k1); (try clear k5); (try clear k6); (try clear k7); (try clear l3); (try clear l4); (try clear l5); (try clear i1); (try clear i2); (try clear i3); (try clear i7); (try clear i8); (try clear i9); (try clear j6); (try clear j7); (try clear j8); (try clear k2); (try clear k3); (try clear k4); (try clear k8); (try clear k9); (try clear l2); (try clear l6); (try clear l7); (try clear l8); (try clear p2); obtain ⟨kq, g7, rfl, HA, HJ54, a5, a6, a7, a2, a3, a4, HB⟩ := hcut
        cases kq with
        | zero => exact absurd HA.out (by simp [laws_FnAskText.j2])
        | succ kj54 =>
         have H := HA.out; clear HA
         simp only [laws_FnAskText.j2] at H
         by_cases c80 : g7 = true
         ·
          subst c80
          rw [if_pos rfl] at H
          rw [hrt] at H
          exact absurd H (by simp)
         ·
          replace c80 := Bool.eq_false_iff.mpr c80
          subst c80
          rw [if_neg (show ¬ (false = true) by decide)] at H
          obtain ⟨v9, A81, H⟩ := bindA H; (try dsimp only at H)
          by_cases c82 : v9 = true
          ·
           subst c82
           rw [if_pos rfl] at H
           obtain ⟨⟨e6, e9, f1, w2⟩, A83, H⟩ := bindA H; (try dsimp only at H)
           by_cases c84 : w2 = true
           ·
            subst c84
            rw [if_pos rfl] at H
            obtain ⟨w3, A85, H⟩ := bindA H; (try dsimp only at H)
            by_cases c86 : w3 = true
            ·
             subst c86
             rw [if_pos rfl] at H
             by_cases c87 : f5 = true
             ·
              subst c87
              rw [if_pos rfl] at H
              obtain ⟨w4, A88, H⟩ := bindA H; (try dsimp only at H); obtain rfl := Option.some.inj H; have D5 := d7.out; have D6 := e2.out; have D7 := b6.out; have D8 := f3.out; obtain ⟨u1, u2, u3⟩ := cc3_ a2.out; obtain ⟨u4, u5, u6⟩ := cf3_ a2.out
              go_wp2_with (first | ((with_reducible refine gc_ 28 rfl ?_); refine gl_ (some 82) rfl Tryd.func28 #[.agg #[.slice d0 b2.length c9, .string d4, .int .i64 d5]] ?_; (with_reducible refine (spec_AskOk.calls kj54 _ _ b2 d4 d5 true _ ?side1 ?side2 A81.out).mono ?_); (case side1 => repeat (first | exact (yai a5.out).2.2 | (with_reducible refine yaq ?_ _) | (with_reducible refine yar ?_ _) | (with_reducible refine yat ?_))); (case side2 => exact (yai a5.out).2.1); rintro e w92 ⟨rfl, hb⟩; refine ⟨_, rfl, ?_⟩; replace a5 := yaa (yac (upR a5.out) hb); replace a6 := yaa (yac (upR a6.out) hb); replace a7 := yaa (yac (upR a7.out) hb); replace a2 := yaa (yaf (upB a2.out) hb); replace a3 := yaa (yaf (upB a3.out) hb); replace a4 := yaa (yaf (upB a4.out) hb); replace HB := yaa (yal (by repeat (with_reducible first | exact HB.out | apply yag | apply yab | apply yae | refine yaj ?_ (Aside0.out ‹_›))) hb); (try clear hb)) | ((with_reducible refine gc_ 18 rfl ?_); refine gl_ (some 91) rfl Tryd.func18 #[.string g4] ?_; (with_reducible refine (impl_AskRead.calls kj54 g4 e6 e9 f1 true _ A83.out ?sideG).mono ?_); (case sideG => exact Glob.belowW HG.out (by repeat (first | (with_reducible first | exact HB.out | apply yag | apply yab | apply yae | refine yaj ?_ (Aside0.out ‹_›)) | exact HB.out | exact Below.refl _ _))); rintro e w93 ⟨w5, rfl, ho0, hb⟩; refine ⟨_, rfl, ?_⟩; have e7 := yaa (Kd.R_lower (Kd.R_new' (Kd.R_new' (Kd.R_new' ho0 (Kd.R_lt (upR a5.out))) (Kd.R_lt (upR a6.out))) (Kd.R_lt (upR a7.out))) (below_size (by repeat (with_reducible first | exact HB.out | apply yag | apply yab | apply yae | refine yaj ?_ (Aside0.out ‹_›))))); replace a5 := yaa (Kd.R_elder' (upR a5.out) (Kd.R_base ho0) hb); replace a6 := yaa (Kd.R_elder' (upR a6.out) (Kd.R_base ho0) hb); replace a7 := yaa (Kd.R_elder' (upR a7.out) (Kd.R_base ho0) hb); replace a2 := yaa (yaf (upB a2.out) hb); replace a3 := yaa (yaf (upB a3.out) hb); replace a4 := yaa (yaf (upB a4.out) hb); replace HB := yaa (yal (by repeat (with_reducible first | exact HB.out | apply yag | apply yab | apply yae | refine yaj ?_ (Aside0.out ‹_›))) hb); (try clear hb ho0)) | ((with_reducible refine gd_ 12 rfl ?_); (try (refine gate_guard (by rfl) ?_; dsimp only)); refine bx_ 12 rfl #[.slice none 0 0, .string (⟨#[]⟩ : ByteArray), .int .i64 0] 37 ?_; intro b3 hg w94 hbox hb; replace a5 := yaa (yac (upR a5.out) hb); replace a6 := yaa (yac (upR a6.out) hb); replace a7 := yaa (yac (upR a7.out) hb); replace e7 := yaa (yac (upR e7.out) hb); have d8 := yaa (hbox); have h7 := yaa ((by rw [hg]; exact (below_size (by repeat (with_reducible first | exact HB.out | apply yag | apply yab | apply yae | refine yaj ?_ (Aside0.out ‹_›)))) : w.heap.size ≤ b3)); replace HB := yaa (yal (by repeat (with_reducible first | exact HB.out | apply yag | apply yab | apply yae | refine yaj ?_ (Aside0.out ‹_›))) hb); have n2 := h7; have e3 := yaa ((by rw [hg]; exact Nat.ne_of_lt (blk_lt (upB a2.out)) : d1 ≠ b3)); replace a2 := yaa (yaf (upB a2.out) hb); have f7 := yaa e3.out.symm; have e4 := yaa ((by rw [hg]; exact Nat.ne_of_lt (blk_lt (upB a3.out)) : c8 ≠ b3)); replace a3 := yaa (yaf (upB a3.out) hb); have f8 := yaa e4.out.symm; have e5 := yaa ((by rw [hg]; exact Nat.ne_of_lt (blk_lt (upB a4.out)) : a9 ≠ b3)); replace a4 := yaa (yaf (upB a4.out) hb); have f9 := yaa e5.out.symm; clear hb hbox hg; obtain ⟨g2, g1, w6⟩ := Kd.R_slice e7.out; subst w6; have D9 := f7.out; have E0 := e3.out; have E1 := f8.out; have E2 := e4.out; have E3 := f9.out; have E4 := e5.out; obtain ⟨u7, u9, v0⟩ := cc3_ d8.out; obtain ⟨v1, v2, v3⟩ := cf3_ d8.out; obtain ⟨n3, n4, n5⟩ := cc3_ a2.out; obtain ⟨n6, n7⟩ := cf2_ a2.out; have n8 := blk_frozen a2.out 2) | (go_at_call 26; (with_reducible refine (laws_eaAsk.calls kj54 _ _ e6 e9 f1 _ _ b2 d4 d5 true _ ?side1 ?side2 ?side3 ?side4 A85.out).mono ?_); (case side1 => refine (yai (e := 23) (base := w.heap.size) (ok := fun k_ => (((True ∧ some k_ ≠ (.slice d0 b2.length c9 : Value).ownBlock) ∧ some k_ ≠ (.slice d2 b7.length d3 : Value).ownBlock) ∧ some k_ ≠ (.slice b8 b4.length b9 : Value).ownBlock)) (n := e6.length) (c := g1) ?_).2.2; exact (by (with_reducible repeat (first | apply yam | apply yan | apply yak)); exact (yap (yah (p := ⟨b3, 2, none⟩) (yah (p := ⟨b3, 1, none⟩) (yah (p := ⟨b3, 0, none⟩) (yao e7.out d8.out (by decide)) (fun _ hk => hk.2) (.slice g2 e6.length g1)) (fun _ hk => hk.2) (.string e9)) (fun _ hk => hk.2) (.int .i64 f1)) (fun _ h_ => h_.1)))); (case side2 => exact (yai e7.out).2.1); (case side3 => refine (yai (e := 23) (base := w.heap.size) (ok := fun k_ => ((some k_ ≠ (.slice d2 b7.length d3 : Value).ownBlock ∧ some k_ ≠ (.slice b8 b4.length b9 : Value).ownBlock) ∧ some k_ ≠ (.slice g2 e6.length g1 : Value).ownBlock)) (n := b2.length) (c := c9) ?_).2.2; exact (by (with_reducible repeat (first | apply yam | apply yan | apply yak)); exact (yap (yah (p := ⟨b3, 2, none⟩) (yah (p := ⟨b3, 1, none⟩) (yah (p := ⟨b3, 0, none⟩) (yao a5.out d8.out (by decide)) (fun _ hk => hk.2) (.slice g2 e6.length g1)) (fun _ hk => hk.2) (.string e9)) (fun _ hk => hk.2) (.int .i64 f1)) (fun _ h_ => h_.1)))); (case side4 => exact (yai a5.out).2.1); rintro e w101 ⟨rfl, hb⟩; replace a5 := yaa (yac (by (with_reducible repeat (first | apply yam | apply yan | apply yak)); exact (yap (yah (p := ⟨b3, 2, none⟩) (yah (p := ⟨b3, 1, none⟩) (yah (p := ⟨b3, 0, none⟩) (yao a5.out d8.out (by decide)) (fun _ hk => hk.2) (.slice g2 e6.length g1)) (fun _ hk => hk.2) (.string e9)) (fun _ hk => hk.2) (.int .i64 f1)) (fun _ h_ => h_.1))) hb); replace a6 := yaa (yac (by (with_reducible repeat (first | apply yam | apply yan | apply yak)); exact (yap (yah (p := ⟨b3, 2, none⟩) (yah (p := ⟨b3, 1, none⟩) (yah (p := ⟨b3, 0, none⟩) (yao a6.out d8.out (by decide)) (fun _ hk => hk.2) (.slice g2 e6.length g1)) (fun _ hk => hk.2) (.string e9)) (fun _ hk => hk.2) (.int .i64 f1)) (fun _ h_ => h_.1))) hb); replace a7 := yaa (yac (by (with_reducible repeat (first | apply yam | apply yan | apply yak)); exact (yap (yah (p := ⟨b3, 2, none⟩) (yah (p := ⟨b3, 1, none⟩) (yah (p := ⟨b3, 0, none⟩) (yao a7.out d8.out (by decide)) (fun _ hk => hk.2) (.slice g2 e6.length g1)) (fun _ hk => hk.2) (.string e9)) (fun _ hk => hk.2) (.int .i64 f1)) (fun _ h_ => h_.1))) hb); replace e7 := yaa (yac (by (with_reducible repeat (first | apply yam | apply yan | apply yak)); exact (yap (yah (p := ⟨b3, 2, none⟩) (yah (p := ⟨b3, 1, none⟩) (yah (p := ⟨b3, 0, none⟩) (yao e7.out d8.out (by decide)) (fun _ hk => hk.2) (.slice g2 e6.length g1)) (fun _ hk => hk.2) (.string e9)) (fun _ hk => hk.2) (.int .i64 f1)) (fun _ h_ => h_.1))) hb); replace a2 := yaa (yaf (g := d1) (o := .cells #[.slice d0 b2.length c9, .string d4, .int .i64 d5] 37 (0, 0)) (by repeat (with_reducible first | exact a2.out | refine oneB ?_ | refine yau ?_ e3.out _)) hb); replace a3 := yaa (yaf (g := c8) (o := .cells #[.slice d2 b7.length d3, .string e0, .int .i64 e1] 37 (0, 0)) (by repeat (with_reducible first | exact a3.out | refine oneB ?_ | refine yau ?_ e4.out _)) hb); replace a4 := yaa (yaf (g := a9) (o := .cells #[.slice b8 b4.length b9, .string d6, .int .i64 d9] 37 (0, 0)) (by repeat (with_reducible first | exact a4.out | refine oneB ?_ | refine yau ?_ e5.out _)) hb); replace d8 := yaa (yaf (g := b3) (o := .cells #[.slice g2 e6.length g1, .string e9, .int .i64 f1] 37 (0, 0)) (by (repeat refine oneB ?_); refine blk_put (cs := #[.slice g2 e6.length g1, .string e9, .int .i64 0]) ?_ 2 _ rfl; refine blk_put (cs := #[.slice g2 e6.length g1, .string (⟨#[]⟩ : ByteArray), .int .i64 0]) ?_ 1 _ rfl; refine blk_put (cs := #[.slice none 0 0, .string (⟨#[]⟩ : ByteArray), .int .i64 0]) ?_ 0 _ rfl; exact upB d8.out) hb); replace HB := yaa (yal (by repeat (with_reducible first | exact HB.out | apply yag | apply yab | apply yae | refine yaj ?_ (Aside0.out ‹_›))) hb); (try clear hb); obtain ⟨n9, o0, o1⟩ := cc3_ a2.out; obtain ⟨o2, o3, o4⟩ := cf3_ a2.out; have w7 := b5.out; have w8 := e8.out; obtain ⟨o5, o6, o7⟩ := cc3_ a3.out; obtain ⟨o8, o9⟩ := cf2_ a3.out; have p0 := blk_frozen a3.out 2) | (go_at_call 26; (with_reducible refine (laws_eaAsk.calls kj54 _ _ b2 d4 d5 _ _ b7 e0 e1 w4 _ ?side1 ?side2 ?side3 ?side4 A88.out).mono ?_); (case side1 => repeat (first | exact (yai a5.out).2.2 | (with_reducible refine yaq ?_ _) | (with_reducible refine yar ?_ _) | (with_reducible refine yat ?_))); (case side2 => exact (yai a5.out).2.1); (case side3 => repeat (first | exact (yai a6.out).2.2 | (with_reducible refine yaq ?_ _) | (with_reducible refine yar ?_ _) | (with_reducible refine yat ?_))); (case side4 => exact (yai a6.out).2.1); rintro e w105 ⟨rfl, hb⟩; replace a5 := yaa (yac (upR a5.out) hb); replace a6 := yaa (yac (upR a6.out) hb); replace a7 := yaa (yac (upR a7.out) hb); replace e7 := yaa (yac (upR e7.out) hb); replace a2 := yaa (yaf (upB a2.out) hb); replace a3 := yaa (yaf (upB a3.out) hb); replace a4 := yaa (yaf (upB a4.out) hb); replace d8 := yaa (yaf (upB d8.out) hb); replace HB := yaa (yal (by repeat (with_reducible first | exact HB.out | apply yag | apply yab | apply yae | refine yaj ?_ (Aside0.out ‹_›))) hb); (try clear hb)))
              go_ret
              exact ⟨by first | rfl | (simp [*, errW_none, errW_some] <;> rfl), by repeat (with_reducible first | exact HB.out | apply yag | apply yab | apply yae | refine yaj ?_ (Aside0.out ‹_›))⟩
             ·
              replace c87 := Bool.eq_false_iff.mpr c87
              subst c87
              rw [if_neg (show ¬ (false = true) by decide)] at H
              obtain rfl := Option.some.inj H; have w9 := d7.out; have x2 := e2.out; have x3 := b6.out; have x4 := f3.out; obtain ⟨p1, p3, p4⟩ := cc3_ a2.out; obtain ⟨p5, p6, p7⟩ := cf3_ a2.out
              go_wp2_with (first | ((with_reducible refine gc_ 28 rfl ?_); refine gl_ (some 82) rfl Tryd.func28 #[.agg #[.slice d0 b2.length c9, .string d4, .int .i64 d5]] ?_; (with_reducible refine (spec_AskOk.calls kj54 _ _ b2 d4 d5 true _ ?side1 ?side2 A81.out).mono ?_); (case side1 => repeat (first | exact (yai a5.out).2.2 | (with_reducible refine yaq ?_ _) | (with_reducible refine yar ?_ _) | (with_reducible refine yat ?_))); (case side2 => exact (yai a5.out).2.1); rintro e w109 ⟨rfl, hb⟩; refine ⟨_, rfl, ?_⟩; replace a5 := yaa (yac (upR a5.out) hb); replace a6 := yaa (yac (upR a6.out) hb); replace a7 := yaa (yac (upR a7.out) hb); replace a2 := yaa (yaf (upB a2.out) hb); replace a3 := yaa (yaf (upB a3.out) hb); replace a4 := yaa (yaf (upB a4.out) hb); replace HB := yaa (yal (by repeat (with_reducible first | exact HB.out | apply yag | apply yab | apply yae | refine yaj ?_ (Aside0.out ‹_›))) hb); (try clear hb)) | ((with_reducible refine gc_ 18 rfl ?_); refine gl_ (some 91) rfl Tryd.func18 #[.string g4] ?_; (with_reducible refine (impl_AskRead.calls kj54 g4 e6 e9 f1 true _ A83.out ?sideG).mono ?_); (case sideG => exact Glob.belowW HG.out (by repeat (first | (with_reducible first | exact HB.out | apply yag | apply yab | apply yae | refine yaj ?_ (Aside0.out ‹_›)) | exact HB.out | exact Below.refl _ _))); rintro e w110 ⟨w5, rfl, ho0, hb⟩; refine ⟨_, rfl, ?_⟩; have e7 := yaa (Kd.R_lower (Kd.R_new' (Kd.R_new' (Kd.R_new' ho0 (Kd.R_lt (upR a5.out))) (Kd.R_lt (upR a6.out))) (Kd.R_lt (upR a7.out))) (below_size (by repeat (with_reducible first | exact HB.out | apply yag | apply yab | apply yae | refine yaj ?_ (Aside0.out ‹_›))))); replace a5 := yaa (Kd.R_elder' (upR a5.out) (Kd.R_base ho0) hb); replace a6 := yaa (Kd.R_elder' (upR a6.out) (Kd.R_base ho0) hb); replace a7 := yaa (Kd.R_elder' (upR a7.out) (Kd.R_base ho0) hb); replace a2 := yaa (yaf (upB a2.out) hb); replace a3 := yaa (yaf (upB a3.out) hb); replace a4 := yaa (yaf (upB a4.out) hb); replace HB := yaa (yal (by repeat (with_reducible first | exact HB.out | apply yag | apply yab | apply yae | refine yaj ?_ (Aside0.out ‹_›))) hb); (try clear hb ho0)) | ((with_reducible refine gd_ 12 rfl ?_); (try (refine gate_guard (by rfl) ?_; dsimp only)); refine bx_ 12 rfl #[.slice none 0 0, .string (⟨#[]⟩ : ByteArray), .int .i64 0] 37 ?_; intro b3 hg w111 hbox hb; replace a5 := yaa (yac (upR a5.out) hb); replace a6 := yaa (yac (upR a6.out) hb); replace a7 := yaa (yac (upR a7.out) hb); replace e7 := yaa (yac (upR e7.out) hb); have d8 := yaa (hbox); have h7 := yaa ((by rw [hg]; exact (below_size (by repeat (with_reducible first | exact HB.out | apply yag | apply yab | apply yae | refine yaj ?_ (Aside0.out ‹_›)))) : w.heap.size ≤ b3)); replace HB := yaa (yal (by repeat (with_reducible first | exact HB.out | apply yag | apply yab | apply yae | refine yaj ?_ (Aside0.out ‹_›))) hb); have n2 := h7; have e3 := yaa ((by rw [hg]; exact Nat.ne_of_lt (blk_lt (upB a2.out)) : d1 ≠ b3)); replace a2 := yaa (yaf (upB a2.out) hb); have f7 := yaa e3.out.symm; have e4 := yaa ((by rw [hg]; exact Nat.ne_of_lt (blk_lt (upB a3.out)) : c8 ≠ b3)); replace a3 := yaa (yaf (upB a3.out) hb); have f8 := yaa e4.out.symm; have e5 := yaa ((by rw [hg]; exact Nat.ne_of_lt (blk_lt (upB a4.out)) : a9 ≠ b3)); replace a4 := yaa (yaf (upB a4.out) hb); have f9 := yaa e5.out.symm; clear hb hbox hg; obtain ⟨f4, f2, p8⟩ := Kd.R_slice e7.out; subst p8; have x5 := f7.out; have x8 := e3.out; have z2 := f8.out; have z3 := e4.out; have z4 := f9.out; have z5 := e5.out; obtain ⟨p9, q0, q1⟩ := cc3_ d8.out; obtain ⟨q2, q3, q4⟩ := cf3_ d8.out; obtain ⟨q5, q6, q7⟩ := cc3_ a2.out; obtain ⟨q8, q9⟩ := cf2_ a2.out; have r0 := blk_frozen a2.out 2) | (go_at_call 26; (with_reducible refine (laws_eaAsk.calls kj54 _ _ e6 e9 f1 _ _ b2 d4 d5 true _ ?side1 ?side2 ?side3 ?side4 A85.out).mono ?_); (case side1 => refine (yai (e := 23) (base := w.heap.size) (ok := fun k_ => (((True ∧ some k_ ≠ (.slice d0 b2.length c9 : Value).ownBlock) ∧ some k_ ≠ (.slice d2 b7.length d3 : Value).ownBlock) ∧ some k_ ≠ (.slice b8 b4.length b9 : Value).ownBlock)) (n := e6.length) (c := f2) ?_).2.2; exact (by (with_reducible repeat (first | apply yam | apply yan | apply yak)); exact (yap (yah (p := ⟨b3, 2, none⟩) (yah (p := ⟨b3, 1, none⟩) (yah (p := ⟨b3, 0, none⟩) (yao e7.out d8.out (by decide)) (fun _ hk => hk.2) (.slice f4 e6.length f2)) (fun _ hk => hk.2) (.string e9)) (fun _ hk => hk.2) (.int .i64 f1)) (fun _ h_ => h_.1)))); (case side2 => exact (yai e7.out).2.1); (case side3 => refine (yai (e := 23) (base := w.heap.size) (ok := fun k_ => ((some k_ ≠ (.slice d2 b7.length d3 : Value).ownBlock ∧ some k_ ≠ (.slice b8 b4.length b9 : Value).ownBlock) ∧ some k_ ≠ (.slice f4 e6.length f2 : Value).ownBlock)) (n := b2.length) (c := c9) ?_).2.2; exact (by (with_reducible repeat (first | apply yam | apply yan | apply yak)); exact (yap (yah (p := ⟨b3, 2, none⟩) (yah (p := ⟨b3, 1, none⟩) (yah (p := ⟨b3, 0, none⟩) (yao a5.out d8.out (by decide)) (fun _ hk => hk.2) (.slice f4 e6.length f2)) (fun _ hk => hk.2) (.string e9)) (fun _ hk => hk.2) (.int .i64 f1)) (fun _ h_ => h_.1)))); (case side4 => exact (yai a5.out).2.1); rintro e w118 ⟨rfl, hb⟩; replace a5 := yaa (yac (by (with_reducible repeat (first | apply yam | apply yan | apply yak)); exact (yap (yah (p := ⟨b3, 2, none⟩) (yah (p := ⟨b3, 1, none⟩) (yah (p := ⟨b3, 0, none⟩) (yao a5.out d8.out (by decide)) (fun _ hk => hk.2) (.slice f4 e6.length f2)) (fun _ hk => hk.2) (.string e9)) (fun _ hk => hk.2) (.int .i64 f1)) (fun _ h_ => h_.1))) hb); replace a6 := yaa (yac (by (with_reducible repeat (first | apply yam | apply yan | apply yak)); exact (yap (yah (p := ⟨b3, 2, none⟩) (yah (p := ⟨b3, 1, none⟩) (yah (p := ⟨b3, 0, none⟩) (yao a6.out d8.out (by decide)) (fun _ hk => hk.2) (.slice f4 e6.length f2)) (fun _ hk => hk.2) (.string e9)) (fun _ hk => hk.2) (.int .i64 f1)) (fun _ h_ => h_.1))) hb); replace a7 := yaa (yac (by (with_reducible repeat (first | apply yam | apply yan | apply yak)); exact (yap (yah (p := ⟨b3, 2, none⟩) (yah (p := ⟨b3, 1, none⟩) (yah (p := ⟨b3, 0, none⟩) (yao a7.out d8.out (by decide)) (fun _ hk => hk.2) (.slice f4 e6.length f2)) (fun _ hk => hk.2) (.string e9)) (fun _ hk => hk.2) (.int .i64 f1)) (fun _ h_ => h_.1))) hb); replace e7 := yaa (yac (by (with_reducible repeat (first | apply yam | apply yan | apply yak)); exact (yap (yah (p := ⟨b3, 2, none⟩) (yah (p := ⟨b3, 1, none⟩) (yah (p := ⟨b3, 0, none⟩) (yao e7.out d8.out (by decide)) (fun _ hk => hk.2) (.slice f4 e6.length f2)) (fun _ hk => hk.2) (.string e9)) (fun _ hk => hk.2) (.int .i64 f1)) (fun _ h_ => h_.1))) hb); replace a2 := yaa (yaf (g := d1) (o := .cells #[.slice d0 b2.length c9, .string d4, .int .i64 d5] 37 (0, 0)) (by repeat (with_reducible first | exact a2.out | refine oneB ?_ | refine yau ?_ e3.out _)) hb); replace a3 := yaa (yaf (g := c8) (o := .cells #[.slice d2 b7.length d3, .string e0, .int .i64 e1] 37 (0, 0)) (by repeat (with_reducible first | exact a3.out | refine oneB ?_ | refine yau ?_ e4.out _)) hb); replace a4 := yaa (yaf (g := a9) (o := .cells #[.slice b8 b4.length b9, .string d6, .int .i64 d9] 37 (0, 0)) (by repeat (with_reducible first | exact a4.out | refine oneB ?_ | refine yau ?_ e5.out _)) hb); replace d8 := yaa (yaf (g := b3) (o := .cells #[.slice f4 e6.length f2, .string e9, .int .i64 f1] 37 (0, 0)) (by (repeat refine oneB ?_); refine blk_put (cs := #[.slice f4 e6.length f2, .string e9, .int .i64 0]) ?_ 2 _ rfl; refine blk_put (cs := #[.slice f4 e6.length f2, .string (⟨#[]⟩ : ByteArray), .int .i64 0]) ?_ 1 _ rfl; refine blk_put (cs := #[.slice none 0 0, .string (⟨#[]⟩ : ByteArray), .int .i64 0]) ?_ 0 _ rfl; exact upB d8.out) hb); replace HB := yaa (yal (by repeat (with_reducible first | exact HB.out | apply yag | apply yab | apply yae | refine yaj ?_ (Aside0.out ‹_›))) hb); (try clear hb)))
              go_ret
              exact ⟨by first | rfl | (simp [*, errW_none, errW_some] <;> rfl), by repeat (with_reducible first | exact HB.out | apply yag | apply yab | apply yae | refine yaj ?_ (Aside0.out ‹_›))⟩
            ·
             replace c86 := Bool.eq_false_iff.mpr c86
             subst c86
             rw [if_neg (show ¬ (false = true) by decide)] at H
             rw [hrt] at H
             exact absurd H (by simp)
           ·
            replace c84 := Bool.eq_false_iff.mpr c84
            subst c84
            rw [if_neg (show ¬ (false = true) by decide)] at H
            rw [hrt] at H
            exact absurd H (by simp)
          ·
           replace c82 := Bool.eq_false_iff.mpr c82
           subst c82
           rw [if_neg (show ¬ (false = true) by decide)] at H
           by_cases h2 : g4.toList = ([] : List UInt8)
           ·
            rw [if_pos h2] at H
            have m1 := beq_iff_eq.mpr h2; have m2 := bne_eq_false_iff_eq.mpr h2; clear h2; obtain ⟨z6, z7, H⟩ := bindA H; (try dsimp only at H); obtain rfl := Option.some.inj H; have z8 := d7.out; have z9 := e2.out; have A2 := b6.out; have A3 := f3.out; obtain ⟨r1, r2, r3⟩ := cc3_ a2.out; obtain ⟨r4, r5, r6⟩ := cf3_ a2.out
            go_wp2_with (first | ((with_reducible refine gc_ 28 rfl ?_); refine gl_ (some 82) rfl Tryd.func28 #[.agg #[.slice d0 b2.length c9, .string d4, .int .i64 d5]] ?_; (with_reducible refine (spec_AskOk.calls kj54 _ _ b2 d4 d5 false _ ?side1 ?side2 A81.out).mono ?_); (case side1 => repeat (first | exact (yai a5.out).2.2 | (with_reducible refine yaq ?_ _) | (with_reducible refine yar ?_ _) | (with_reducible refine yat ?_))); (case side2 => exact (yai a5.out).2.1); rintro e w124 ⟨rfl, hb⟩; refine ⟨_, rfl, ?_⟩; replace a5 := yaa (yac (upR a5.out) hb); replace a6 := yaa (yac (upR a6.out) hb); replace a7 := yaa (yac (upR a7.out) hb); replace a2 := yaa (yaf (upB a2.out) hb); replace a3 := yaa (yaf (upB a3.out) hb); replace a4 := yaa (yaf (upB a4.out) hb); replace HB := yaa (yal (by repeat (with_reducible first | exact HB.out | apply yag | apply yab | apply yae | refine yaj ?_ (Aside0.out ‹_›))) hb); (try clear hb)) | (go_at_call 16; (with_reducible refine (laws_eaOk.calls  z6 _ z7.out).mono ?_); rintro e w125 ⟨rfl, hb⟩; replace a5 := yaa (yac (upR a5.out) hb); replace a6 := yaa (yac (upR a6.out) hb); replace a7 := yaa (yac (upR a7.out) hb); replace a2 := yaa (yaf (upB a2.out) hb); replace a3 := yaa (yaf (upB a3.out) hb); replace a4 := yaa (yaf (upB a4.out) hb); replace HB := yaa (yal (by repeat (with_reducible first | exact HB.out | apply yag | apply yab | apply yae | refine yaj ?_ (Aside0.out ‹_›))) hb); (try clear hb)))
            go_ret
            exact ⟨by first | rfl | (simp [*, errW_none, errW_some] <;> rfl), by repeat (with_reducible first | exact HB.out | apply yag | apply yab | apply yae | refine yaj ?_ (Aside0.out ‹_›))⟩
           ·
            rw [if_neg h2] at H
            have m1 := beq_eq_false_iff_ne.mpr h2; have m2 := bne_iff_ne.mpr h2
            rw [hrt] at H
            exact absurd H (by simp)

/-- THE ONE PURE STATEMENT of laws_FnAskText: yours. -/
def laws_FnAskText.Pure : Prop := ∀ (l0 : List Int) (l1 : List Int), l0.length ≤ maxLen → l0.length * 1 ≤ 140737488351232 → (∀ x ∈ l0, (Lit.int .u8 x).wf = true) → l1.length ≤ maxLen → l1.length * 1 ≤ 140737488351232 → (∀ x ∈ l1, (Lit.int .u8 x).wf = true) → ∃ k, laws_FnAskText.f k l0 l1 = some true
theorem laws_FnAskText.walk (P : laws_FnAskText.Pure) (a0 : Option Addr) (len0 cap0 : Nat) (z0 : List Int) (a1 : Option Addr) (len1 cap1 : Nat) (z1 : List Int) (w : World) (w0 : (a0 = none ∧ len0 = 0 ∧ cap0 = 0 ∧ z0 = []) ∨ ∃ x, a0 = some x ∧ len0 ≤ cap0 ∧ cap0 ≤ maxLen ∧ z0.length = cap0 ∧ (∀ i, i < z0.length → w.cell? (x.add i) = some (.int .u8 (z0.getD i 0))) ∧ ∀ n ∈ z0, (Lit.int .u8 n).wf = true) (y0 : len0 * 1 ≤ 140737488351232) (w1 : (a1 = none ∧ len1 = 0 ∧ cap1 = 0 ∧ z1 = []) ∨ ∃ x, a1 = some x ∧ len1 ≤ cap1 ∧ cap1 ≤ maxLen ∧ z1.length = cap1 ∧ (∀ i, i < z1.length → w.cell? (x.add i) = some (.int .u8 (z1.getD i 0))) ∧ ∀ n ∈ z1, (Lit.int .u8 n).wf = true) (y1 : len1 * 1 ≤ 140737488351232) (hG : Glob w) :
  Calls Tryd.prog 6 #[.slice a0 len0 cap0, .slice a1 len1 cap1] w fun e w' => e = .returned (.bool true) ∧ Below w.heap.size w w' := by
 obtain ⟨l0, rfl, hr0, hm0, hw0, hc0⟩ := ReadsInt.ofRowC w0; obtain ⟨l1, rfl, hr1, hm1, hw1, hc1⟩ := ReadsInt.ofRowC w1; obtain ⟨k, h⟩ := P l0 l1 hm0 y0 hw0 hm1 y1 hw1
 refine (laws_FnAskText.calls k _ _ l0 _ _ l1 true w (Kd.C_of_reads (d := (0 : Int)) (h1 := fun _ => rfl) hr0) hc0 (Kd.C_of_reads (d := (0 : Int)) (h1 := fun _ => rfl) hr1) hc1 h rfl hG).mono ?_
 rintro e w' ⟨rfl, hd⟩
 exact ⟨rfl, hd⟩
end
end Go.Proofs.YtfafjpfigphchaaDoor.X
namespace Go.Proofs.YtfafjpfigphchaaDoor.Pl
open Go.RowKit Go.Proofs.YtfafjpfigphchaaDoorW.PrintWords

theorem wrap_id {x : Int} (h0 : -9223372036854775808 ≤ x) (h1 : x ≤ 9223372036854775807) : wrap64 x = x := by
  unfold wrap64; omega
theorem wrap_succ {i : Nat} (h : i < 9223372036854775807) : wrap64 ((i : Int) + 1) = ((i + 1 : Nat) : Int) := by
  unfold wrap64; omega

/-- From a round on: with a round more. -/
theorem ev_succ {α : Type} {g : Nat → Option α} {r : α} (h : Ev (fun k => g (k + 1)) r) : Ev g r := by
  obtain ⟨K, h⟩ := h
  refine ⟨K + 1, fun n hn => ?_⟩
  obtain ⟨m, rfl⟩ : ∃ m, n = m + 1 := ⟨n - 1, by omega⟩
  exact h m (by omega)

theorem getD_mem {α : Type} (l : List α) (z : α) (i : Nat) (h : i < l.length) : l.getD i z ∈ l := by
  rw [List.getD_eq_getElem?_getD, List.getElem?_eq_getElem h]; exact List.getElem_mem h

/-- A loop that asks something at each place, and stops with a no. -/
theorem ev_allR (n : Nat) (p : Nat → Bool) (b : Bool) (g : Nat → Int → Option Bool)
    (hyes : ∀ i, i < n → p i = true → ∀ r, Ev (fun k => g k ((i + 1 : Nat) : Int)) r → Ev (fun k => g k (i : Int)) r)
    (hno : ∀ i, i < n → p i = false → Ev (fun k => g k (i : Int)) false)
    (hend : Ev (fun k => g k (n : Int)) b) : Ev (fun k => g k 0) ((List.range n).all p && b) := by
  have key : ∀ d i, i + d = n → Ev (fun k => g k (i : Int)) (((List.range' i d).all p) && b) := by
    intro d
    induction d with
    | zero => intro i hi; have : i = n := by omega
              subst this; simpa using hend
    | succ d ih =>
      intro i hi
      have := ih (i + 1) (by omega)
      rw [List.range'_succ, List.all_cons]
      cases hp : p i with
      | true => simpa using hyes i (by omega) hp _ this
      | false => simpa using hno i (by omega) hp
  have := key n 0 (by omega)
  rwa [← List.range_eq_range'] at this

/-- From a number of rounds on, through a step. -/
theorem Ev.at_ {α : Type} {g : Nat → Option α} {r : α} (h : Ev g r) : ∃ K, ∀ k, K ≤ k → g k = some r := h
theorem ev_const {α : Type} {x : Option α} {r : α} (h : x = some r) : Ev (fun _ => x) r := ⟨0, fun _ _ => h⟩

/-! ### What a told function comes to, from some number of rounds on -/
/-- It answers, and the answer is so. -/
def Tot {α : Type} (g : Nat → Option α) (post : α → Prop) : Prop := ∃ r, Ev g r ∧ post r
theorem Tot.ret {α : Type} {post : α → Prop} {r : α} (h : post r) : Tot (fun _ => some r) post := ⟨r, Ev.now r, h⟩
theorem Tot.mono {α : Type} {g : Nat → Option α} {P Q : α → Prop} (h : Tot g P) (hi : ∀ r, P r → Q r) : Tot g Q := by
  obtain ⟨r, h, hp⟩ := h
  exact ⟨r, h, hi r hp⟩
theorem Tot.bind {α β : Type} {g : Nat → Option α} {f : Nat → α → Option β} {P : α → Prop} {Q : β → Prop} (h : Tot g P) (hf : ∀ a, P a → Tot (fun k => f k a) Q) : Tot (fun k => (g k).bind (f k)) Q := by
  obtain ⟨a, h, hp⟩ := h
  obtain ⟨r, h2, hq⟩ := hf a hp
  exact ⟨r, Ev.bind h h2, hq⟩
theorem Tot.some_bind {α β : Type} {f : Nat → α → Option β} {Q : β → Prop} {a : α} (hf : Tot (fun k => f k a) Q) : Tot (fun k => (some a).bind (f k)) Q := hf
theorem Tot.ite {α : Type} {c : Prop} [Decidable c] {f g : Nat → Option α} {Q : α → Prop} (h1 : c → Tot f Q) (h2 : ¬ c → Tot g Q) : Tot (fun k => if c then f k else g k) Q := by
  by_cases h : c
  · simpa [h] using h1 h
  · simpa [h] using h2 h
theorem Tot.pos {α : Type} {c : Prop} [Decidable c] {f g : Nat → Option α} {Q : α → Prop} (h : c) (h1 : Tot f Q) : Tot (fun k => if c then f k else g k) Q := by simpa [h] using h1
theorem Tot.neg {α : Type} {c : Prop} [Decidable c] {f g : Nat → Option α} {Q : α → Prop} (h : ¬ c) (h1 : Tot g Q) : Tot (fun k => if c then f k else g k) Q := by simpa [h] using h1
theorem Tot.succ {α : Type} {g : Nat → Option α} {Q : α → Prop} (h : Tot (fun k => g (k + 1)) Q) : Tot g Q := by
  obtain ⟨r, h, hp⟩ := h
  exact ⟨r, ev_succ h, hp⟩
theorem Tot.of_ev {α : Type} {g : Nat → Option α} {r : α} (h : Ev g r) : Tot g (fun x => x = r) := ⟨r, h, rfl⟩
theorem Tot.of_eq {α : Type} {x : Option α} {r : α} (h : x = some r) : Tot (fun _ => x) (fun y => y = r) := ⟨r, ev_const h, rfl⟩
theorem Tot.ev {α : Type} {g : Nat → Option α} {P : α → Prop} (h : Tot g P) : ∃ r, Ev g r ∧ P r := h
/-- A loop, or a call of itself: what is smaller comes to its answer. -/
theorem tot_ind {α σ : Type} (g : Nat → σ → Option α) (Inv : σ → Prop) (m : σ → Nat) (post : α → Prop)
    (h : ∀ s, Inv s → (∀ s', Inv s' → m s' < m s → Tot (fun k => g k s') post) → Tot (fun k => g k s) post) : ∀ s, Inv s → Tot (fun k => g k s) post := by
  have key : ∀ d s, m s < d → Inv s → Tot (fun k => g k s) post := by
    intro d
    induction d with
    | zero => intro s h; omega
    | succ d ih => intro s hd hs; exact h s hs (fun s' hs' hm => ih s' (by omega) hs')
  intro s hs
  exact key (m s + 1) s (by omega) hs
theorem Tot.rounds {g : Nat → Option Bool} (h : Tot g (fun b => b = true)) : ∃ k, g k = some true := by
  obtain ⟨r, h, rfl⟩ := h
  exact h.rounds

end Go.Proofs.YtfafjpfigphchaaDoor.Pl
namespace Go.Proofs.YtfafjpfigphchaaDoor.X
open Go.RowKit Go.Proofs.YtfafjpfigphchaaDoorW.PrintWords Go.Proofs.YtfafjpfigphchaaDoor.Pl
set_option linter.unusedSimpArgs false

theorem l1In_some (a b c : Int) : spec_l1In.f a b c = some (decide (b ≤ a ∧ a ≤ c)) := by
  unfold spec_l1In.f
  by_cases h : b ≤ a <;> simp [h]
theorem within_some (a b c : Int) : impl_within.f a b c = some (decide (b ≤ a ∧ a ≤ c)) := by
  unfold impl_within.f
  by_cases h : b ≤ a <;> simp [h]
theorem sizeOk_some (a : Int) : impl_sizeOk.f a = some (decide (1 ≤ a ∧ a ≤ 6)) := by
  unfold impl_sizeOk.f
  by_cases h : 1 ≤ a <;> simp [h]
theorem partOk_some (a : Int) : impl_partOk.f a = some (decide (0 ≤ a ∧ a ≤ 255)) := by
  unfold impl_partOk.f
  by_cases h : 0 ≤ a <;> simp [h]

/-- May it be done: by its kind and its four numbers. -/
def opOkB (o a b c d : Int) : Bool :=
  if o = 1 then decide (0 ≤ a ∧ a ≤ 5) && (decide (0 ≤ b ∧ b ≤ 5) && (decide (1 ≤ c ∧ c ≤ 6) && decide (1 ≤ d ∧ d ≤ 6)))
  else if o = 7 then decide (1 ≤ a ∧ a ≤ 6) && (decide (1 ≤ b ∧ b ≤ 6) && (decide (c = 0) && decide (d = 0)))
  else if o = 8 then decide (0 ≤ a ∧ a ≤ 255) && (decide (0 ≤ b ∧ b ≤ 255) && (decide (0 ≤ c ∧ c ≤ 255) && decide (d = 0)))
  else decide (2 ≤ o ∧ o ≤ 6) && (decide (a = 0) && (decide (b = 0) && (decide (c = 0) && decide (d = 0))))

theorem spec_OpOk_some (o a b c d : Int) : spec_OpOk.f o a b c d = some (opOkB o a b c d) := by
  unfold spec_OpOk.f opOkB
  simp only [l1In_some, Option.bind_some]
  by_cases h1 : o = 1
  · simp only [h1, if_true]
    by_cases p : 0 ≤ a ∧ a ≤ 5 <;> by_cases q : 0 ≤ b ∧ b ≤ 5 <;> by_cases r : 1 ≤ c ∧ c ≤ 6 <;> simp [p, q, r]
  · simp only [h1, if_false]
    by_cases h7 : o = 7
    · simp only [h7, if_true]
      by_cases p : 1 ≤ a ∧ a ≤ 6 <;> by_cases q : 1 ≤ b ∧ b ≤ 6 <;> by_cases r : c = 0 <;> simp [p, q, r]; rfl
    · simp only [h7, if_false]
      by_cases h8 : o = 8
      · simp only [h8, if_true]
        by_cases p : 0 ≤ a ∧ a ≤ 255 <;> by_cases q : 0 ≤ b ∧ b ≤ 255 <;> by_cases r : 0 ≤ c ∧ c ≤ 255 <;> simp [p, q, r]; rfl
      · simp only [h8, if_false]
        by_cases p : 2 ≤ o ∧ o ≤ 6 <;> by_cases q : a = 0 <;> by_cases r : b = 0 <;> by_cases s : c = 0 <;> simp [p, q, r, s]; rfl

theorem impl_OpOk_some (k : Nat) (o a b c d : Int) : impl_OpOk.f (k + 1) o a b c d = some (opOkB o a b c d) := by
  unfold impl_OpOk.f opOkB
  simp only [impl_OpOk.j0, within_some, sizeOk_some, partOk_some, Option.bind_some]
  by_cases h1 : o = 1
  · simp only [h1, if_true]
    by_cases p : 0 ≤ a ∧ a ≤ 5 <;> by_cases q : 0 ≤ b ∧ b ≤ 5 <;> by_cases r : 1 ≤ c ∧ c ≤ 6 <;> simp [p, q, r]
  · simp only [h1, if_false]
    by_cases h2 : o = 2
    · subst h2; simp; rfl
    by_cases h3 : o = 3
    · subst h3; simp; rfl
    by_cases h4 : o = 4
    · subst h4; simp; rfl
    by_cases h5 : o = 5
    · subst h5; simp; rfl
    by_cases h6 : o = 6
    · subst h6; simp; rfl
    by_cases h7 : o = 7
    · subst h7
      simp only [show ¬ ((7 : Int) = 2) by decide, show ¬ ((7 : Int) = 3) by decide, show ¬ ((7 : Int) = 4) by decide, show ¬ ((7 : Int) = 5) by decide, if_false, if_true]
      by_cases p : 1 ≤ a ∧ a ≤ 6 <;> by_cases q : 1 ≤ b ∧ b ≤ 6 <;> by_cases r : c = 0 <;> simp [p, q, r]; rfl
    by_cases h8 : o = 8
    · subst h8
      simp only [show ¬ ((8 : Int) = 2) by decide, show ¬ ((8 : Int) = 3) by decide, show ¬ ((8 : Int) = 4) by decide, show ¬ ((8 : Int) = 5) by decide, show ¬ ((8 : Int) = 7) by decide, if_false, if_true]
      by_cases p : 0 ≤ a ∧ a ≤ 255 <;> by_cases q : 0 ≤ b ∧ b ≤ 255 <;> by_cases r : 0 ≤ c ∧ c ≤ 255 <;> simp [p, q, r]; rfl
    have h9 : ¬ (2 ≤ o ∧ o ≤ 6) := by omega
    have h6' : (o == 6) = false := by simpa using h6
    simp [h2, h3, h4, h5, h7, h8, h9, h6']

abbrev Op := S23
def okB (x : Op) : Bool := opOkB x.f0 x.f1 x.f2 x.f3 x.f4
def opAt (l : List Op) (i : Nat) : Op := rd_T23 l (i : Int)
def allOkB (l : List Op) : Bool := decide (l.length ≤ 5) && (List.range l.length).all fun i => okB (opAt l i)

theorem spec_l6All_ev (l : List Op) (hl : l.length ≤ 4611686018427387904) : Ev (fun k => spec_l6All.f k l) (allOkB l) := by
  have := ev_allR l.length (fun i => okB (opAt l i)) (decide ((l.length : Int) ≤ 5)) (fun k i => spec_l6All.l0 k l i) ?_ ?_ ?_
  · have e : allOkB l = ((List.range l.length).all (fun i => okB (opAt l i)) && decide ((l.length : Int) ≤ 5)) := by
      unfold allOkB
      rw [Bool.and_comm]
      congr 1
      simp only [decide_eq_decide]
      omega
    rw [e]
    exact this
  · intro i hi hp r h
    refine Ev.step (fun k => ?_) h
    have e := spec_OpOk_some (rd_T23 l (i : Int)).f0 (rd_T23 l (i : Int)).f1 (rd_T23 l (i : Int)).f2 (rd_T23 l (i : Int)).f3 (rd_T23 l (i : Int)).f4
    simp only [spec_l6All.l0]
    rw [if_pos (by omega), if_pos (by omega), e]
    simp only [Option.bind_some]
    rw [if_pos (show opOkB (rd_T23 l (i : Int)).f0 (rd_T23 l (i : Int)).f1 (rd_T23 l (i : Int)).f2 (rd_T23 l (i : Int)).f3 (rd_T23 l (i : Int)).f4 = true from hp), wrap_succ (by omega)]
  · intro i hi hp
    refine ev_succ ⟨0, fun k _ => ?_⟩
    have e := spec_OpOk_some (rd_T23 l (i : Int)).f0 (rd_T23 l (i : Int)).f1 (rd_T23 l (i : Int)).f2 (rd_T23 l (i : Int)).f3 (rd_T23 l (i : Int)).f4
    simp only [spec_l6All.l0]
    rw [if_pos (by omega), if_pos (by omega), e]
    simp only [Option.bind_some]
    rw [if_neg (show ¬ (opOkB (rd_T23 l (i : Int)).f0 (rd_T23 l (i : Int)).f1 (rd_T23 l (i : Int)).f2 (rd_T23 l (i : Int)).f3 (rd_T23 l (i : Int)).f4 = true) from by have hp2 : opOkB (rd_T23 l (i : Int)).f0 (rd_T23 l (i : Int)).f1 (rd_T23 l (i : Int)).f2 (rd_T23 l (i : Int)).f3 (rd_T23 l (i : Int)).f4 = false := hp; rw [hp2]; decide)]
  · refine ev_succ ⟨0, fun k _ => ?_⟩
    simp only [spec_l6All.l0]
    rw [if_neg (by omega)]

theorem impl_opsOk_ev (l : List Op) (hl : l.length ≤ 4611686018427387904) : Ev (fun k => impl_opsOk.f k l) (allOkB l) := by
  by_cases h5 : l.length ≤ 5
  · have := ev_allR l.length (fun i => okB (opAt l i)) true (fun k i => impl_opsOk.l0 k l (l.length : Int) i) ?_ ?_ ?_
    · have e : allOkB l = ((List.range l.length).all (fun i => okB (opAt l i)) && true) := by
        unfold allOkB
        simp [h5]
      rw [e]
      refine Ev.congr (fun k => ?_) this
      show impl_opsOk.f k l = _
      unfold impl_opsOk.f
      rw [if_neg (by omega)]
    · intro i hi hp r h
      obtain ⟨K, h⟩ := h
      refine ⟨K + 2, fun k hk => ?_⟩
      obtain ⟨k, rfl⟩ : ∃ m, k = m + 2 := ⟨k - 2, by omega⟩
      have e := impl_OpOk_some k (rd_T23 l (i : Int)).f0 (rd_T23 l (i : Int)).f1 (rd_T23 l (i : Int)).f2 (rd_T23 l (i : Int)).f3 (rd_T23 l (i : Int)).f4
      have e2 := h (k + 1) (by omega)
      dsimp only at e2 ⊢
      simp only [impl_opsOk.l0] at e2 ⊢
      rw [if_pos (by omega), if_pos (by omega), if_pos (by omega), e]
      simp only [Option.bind_some]
      rw [if_pos (show opOkB (rd_T23 l (i : Int)).f0 (rd_T23 l (i : Int)).f1 (rd_T23 l (i : Int)).f2 (rd_T23 l (i : Int)).f3 (rd_T23 l (i : Int)).f4 = true from hp), wrap_succ (by omega)]
      exact e2
    · intro i hi hp
      refine ev_succ (ev_succ ⟨0, fun k _ => ?_⟩)
      have e := impl_OpOk_some k (rd_T23 l (i : Int)).f0 (rd_T23 l (i : Int)).f1 (rd_T23 l (i : Int)).f2 (rd_T23 l (i : Int)).f3 (rd_T23 l (i : Int)).f4
      simp only [impl_opsOk.l0]
      rw [if_pos (by omega), if_pos (by omega), if_pos (by omega), e]
      simp only [Option.bind_some]
      rw [if_neg (show ¬ (opOkB (rd_T23 l (i : Int)).f0 (rd_T23 l (i : Int)).f1 (rd_T23 l (i : Int)).f2 (rd_T23 l (i : Int)).f3 (rd_T23 l (i : Int)).f4 = true) from by have hp2 : opOkB (rd_T23 l (i : Int)).f0 (rd_T23 l (i : Int)).f1 (rd_T23 l (i : Int)).f2 (rd_T23 l (i : Int)).f3 (rd_T23 l (i : Int)).f4 = false := hp; rw [hp2]; decide)]
    · refine ev_succ ⟨0, fun k _ => ?_⟩
      simp only [impl_opsOk.l0]
      rw [if_neg (by omega)]
  · have e : allOkB l = false := by
      unfold allOkB
      simp [h5]
    rw [e]
    refine ⟨0, fun k _ => ?_⟩
    show impl_opsOk.f k l = _
    unfold impl_opsOk.f
    rw [if_pos (by omega)]

/-- A letter, or a digit. -/
def signB (c : Int) : Bool := decide (97 ≤ c ∧ c ≤ 122) || decide (48 ≤ c ∧ c ≤ 57)
def nameB (s : ByteArray) : Bool := decide (1 ≤ s.size ∧ s.size ≤ 6) && (List.range s.size).all fun i => signB (bt s (i : Int))

theorem impl_nameOk_ev (s : ByteArray) : Ev (fun k => impl_nameOk.f k s) (nameB s) := by
  by_cases hs : 1 ≤ s.size ∧ s.size ≤ 6
  · have := ev_allR s.size (fun i => signB (bt s (i : Int))) true (fun k i => impl_nameOk.l0 k s (s.size : Int) i) ?_ ?_ ?_
    · have e : nameB s = ((List.range s.size).all (fun i => signB (bt s (i : Int))) && true) := by
        unfold nameB
        simp [hs]
      rw [e]
      refine Ev.step (fun k => ?_) this
      unfold impl_nameOk.f
      rw [if_neg (by omega)]
      simp only [impl_nameOk.j0]
      rw [if_neg (by simp; omega)]
    · intro i hi hp r h
      refine Ev.step (fun k => ?_) h
      simp only [impl_nameOk.l0]
      rw [if_pos (by omega), if_pos (by omega), if_pos (by omega), wrap_succ (by omega)]
      simp only [signB, Bool.or_eq_true, decide_eq_true_eq] at hp
      repeat' split
      all_goals first | rfl | (exfalso; omega)
    · intro i hi hp
      refine ev_succ ⟨0, fun k _ => ?_⟩
      simp only [impl_nameOk.l0]
      rw [if_pos (by omega), if_pos (by omega), if_pos (by omega)]
      simp only [signB, Bool.or_eq_false_iff, decide_eq_false_iff_not] at hp
      repeat' split
      all_goals first | rfl | (exfalso; omega)
    · refine ev_succ ⟨0, fun k _ => ?_⟩
      simp only [impl_nameOk.l0]
      rw [if_neg (by omega)]
  · have e : nameB s = false := by
      unfold nameB
      simp only [hs, decide_false, Bool.false_and]
    rw [e]
    refine ev_succ ⟨0, fun k _ => ?_⟩
    unfold impl_nameOk.f
    simp only [impl_nameOk.j0]
    split
    · rfl
    · rw [if_pos (by simp; omega)]

theorem spec_l7Path_ev (s : ByteArray) : Ev (fun k => spec_l7Path.f k s) (nameB s) := by
  by_cases hs : 1 ≤ s.size ∧ s.size ≤ 6
  · have := ev_allR s.size (fun i => signB (bt s (i : Int))) true (fun k i => spec_l7Path.l0 k s i) ?_ ?_ ?_
    · have e : nameB s = ((List.range s.size).all (fun i => signB (bt s (i : Int))) && true) := by
        unfold nameB
        simp [hs]
      rw [e]
      refine Ev.step (fun k => ?_) this
      unfold spec_l7Path.f
      rw [if_neg (by omega)]
      simp only [spec_l7Path.j0]
      rw [if_neg (by simp; omega)]
    · intro i hi hp r h
      refine Ev.step (fun k => ?_) h
      simp only [spec_l7Path.l0]
      rw [if_pos (by omega), if_pos (by omega), wrap_succ (by omega)]
      simp only [signB, Bool.or_eq_true, decide_eq_true_eq] at hp
      repeat' split
      all_goals first | rfl | (exfalso; omega)
    · intro i hi hp
      refine ev_succ ⟨0, fun k _ => ?_⟩
      simp only [spec_l7Path.l0]
      rw [if_pos (by omega), if_pos (by omega)]
      simp only [signB, Bool.or_eq_false_iff, decide_eq_false_iff_not] at hp
      repeat' split
      all_goals first | rfl | (exfalso; omega)
    · refine ev_succ ⟨0, fun k _ => ?_⟩
      simp only [spec_l7Path.l0]
      rw [if_neg (by omega)]
  · have e : nameB s = false := by
      unfold nameB
      simp only [hs, decide_false, Bool.false_and]
    rw [e]
    refine ev_succ ⟨0, fun k _ => ?_⟩
    unfold spec_l7Path.f
    simp only [spec_l7Path.j0]
    split
    · rfl
    · rw [if_pos (by simp; omega)]

def askB (l : List Op) (s : ByteArray) (n : Int) : Bool := allOkB l && (nameB s && decide (0 ≤ n ∧ n ≤ 9999))
theorem impl_AskOk_ev (l : List Op) (hl : l.length ≤ 4611686018427387904) (s : ByteArray) (n : Int) : Ev (fun k => impl_AskOk.f k l s n) (askB l s n) := by
  obtain ⟨K, h⟩ := impl_opsOk_ev l hl
  obtain ⟨K', h'⟩ := impl_nameOk_ev s
  refine ⟨K + K', fun k hk => ?_⟩
  have e1 := h k (by omega)
  have e2 := h' k (by omega)
  dsimp only at e1 e2 ⊢
  unfold impl_AskOk.f askB
  rw [e1]
  cases allOkB l <;> simp [e2, within_some]
  cases nameB s <;> simp
theorem spec_AskOk_ev (l : List Op) (hl : l.length ≤ 4611686018427387904) (s : ByteArray) (n : Int) : Ev (fun k => spec_AskOk.f k l s n) (askB l s n) := by
  obtain ⟨K, h⟩ := spec_l6All_ev l hl
  obtain ⟨K', h'⟩ := spec_l7Path_ev s
  refine ⟨K + K', fun k hk => ?_⟩
  have e1 := h k (by omega)
  have e2 := h' k (by omega)
  dsimp only at e1 e2 ⊢
  unfold spec_AskOk.f askB
  rw [e1]
  cases allOkB l <;> simp [e2, l1In_some]
  cases nameB s <;> simp
end Go.Proofs.YtfafjpfigphchaaDoor.X
namespace Go.Proofs.YtfafjpfigphchaaDoor.X
open Go.RowKit Go.Proofs.YtfafjpfigphchaaDoorW.PrintWords Go.Proofs.YtfafjpfigphchaaDoor.Pl
set_option linter.unusedSimpArgs false
set_option linter.unusedVariables false
theorem wr_id {x : Int} (h0 : -9223372036854775808 ≤ x) (h1 : x ≤ 9223372036854775807) : wrap64 x = x := by unfold wrap64; omega
theorem digit_str (d : Nat) (h : d < 10) : strOfNums [(wrap64 (48 + (d : Int))) % 256] = ⟨#[UInt8.ofNat (48 + d)]⟩ := by
  rw [wr_id (by omega) (by omega), show (48 + (d : Int)) % 256 = ((48 + d : Nat) : Int) by omega]
  unfold strOfNums
  rfl
/-- A number's digits, ahead of what stands behind them. -/
theorem plain_tot (n : Nat) : n ≤ 9223372036854775807 → ∀ x3 : ByteArray, x3.size + Lib.nDigits n ≤ 9223372036854775807 → Tot (fun k => spec_l7Plain.l0 k (n : Int) x3) (fun r => r = ⟨(Lib.decDigits n).toArray⟩ ++ x3) := by
  induction n using Nat.strongRecOn with
  | _ n ih =>
    intro hn x3 hx
    refine Tot.succ ?_
    simp only [spec_l7Plain.l0]
    by_cases h : n < 10
    · refine Tot.neg (by omega) (Tot.some_bind ?_)
      rw [digit_str n h]
      rw [Lib.nDigits_small h] at hx
      refine Tot.pos ?_ (Tot.ret ?_)
      · show 1 + x3.size ≤ _
        omega
      · rw [Lib.decDigits_one h]
    · refine Tot.pos (by omega) (Tot.some_bind ?_)
      rw [show Int.tmod (n : Int) 10 = ((n % 10 : Nat) : Int) from (Int.ofNat_tmod n 10).symm, digit_str _ (by omega), show Int.tdiv (n : Int) 10 = ((n / 10 : Nat) : Int) from (Int.ofNat_tdiv n 10).symm, wr_id (by omega) (by omega)]
      rw [Lib.nDigits_big h] at hx
      have hp := Lib.nDigits_pos (n / 10)
      refine Tot.pos ?_ ?_
      · show 1 + x3.size ≤ _
        omega
      · refine Tot.mono (ih (n / 10) (by omega) (by omega) _ ?_) ?_
        · rw [ByteArray.size_append]
          show 1 + x3.size + _ ≤ _
          omega
        · rintro r rfl
          rw [Lib.decDigits.eq_def n, dif_neg h, ← ByteArray.append_assoc]
          congr 1
theorem plainF_tot (n : Nat) (hn : n ≤ 9223372036854775807) : Tot (fun k => spec_l7Plain.f k (n : Int)) (fun r => r = ⟨(Lib.itoa (n : Int)).toArray⟩) := by
  have h := Lib.itoa_length_le (n : Int) (by omega) (by omega)
  rw [Lib.itoa_nonneg, Lib.decDigits_length] at h
  refine Tot.mono (plain_tot n hn ⟨#[]⟩ (by show 0 + _ ≤ _; omega)) ?_
  rintro r rfl
  rw [Lib.itoa_nonneg]
  exact ByteArray.append_empty
theorem rd4 (a b c d : Int) (i : Nat) (hi : i < 4) : rd [a, b, c, d] (i : Int) = [a, b, c, d].getD i 0 := by
  match i, hi with
  | 0, _ => rfl
  | 1, _ => rfl
  | 2, _ => rfl
  | 3, _ => rfl
theorem otext_tot (W : ByteArray) (hW : W.size ≤ 5) (a b c d : Int) (hns : ∀ n ∈ [a, b, c, d], 0 ≤ n ∧ n ≤ 9223372036854775807) (many : Nat) (hm : many ≤ 4) : ∀ e i, i + e = many → Tot (fun k => spec_OpText.l0 k (txtI W ([a, b, c, d].take i)) many [a, b, c, d] i) (fun r => r = txtI W ([a, b, c, d].take many))
  | 0, i, h => by
    obtain rfl : i = many := by omega
    refine Tot.succ ?_
    simp only [spec_OpText.l0]
    exact Tot.neg (by omega) (Tot.ret rfl)
  | e + 1, i, h => by
    have ih := otext_tot W hW a b c d hns many hm e (i + 1) (by omega)
    have hl := txtI_len W ([a, b, c, d].take i) (fun n hn => by have := hns n (List.mem_of_mem_take hn); exact ⟨by omega, this.2⟩) hW (by simp; omega)
    have hn := hns ([a, b, c, d].getD i 0) (num_mem (by omega))
    have e1 : txtI W ([a, b, c, d].take (i + 1)) = txtI W ([a, b, c, d].take i) ++ numT ([a, b, c, d].getD i 0) := by rw [take_getD _ _ (by simp; omega), txtI_snoc]
    rw [e1] at ih
    generalize txtI W ([a, b, c, d].take i) = T at *
    refine Tot.succ ?_
    simp only [spec_OpText.l0, rd4 a b c d i (by omega)]
    obtain ⟨m, hm'⟩ := Int.eq_ofNat_of_zero_le hn.1
    rw [hm'] at ih hn ⊢
    refine Tot.pos (by omega) (Tot.pos (by omega) (Tot.pos (by omega) (Tot.pos (by simp; omega) ?_)))
    refine Tot.bind (plainF_tot m (by omega)) ?_
    rintro _ rfl
    have h20 := Lib.itoa_length_le (m : Int) (by omega) (by omega)
    refine Tot.pos ?_ ?_
    · rw [ByteArray.size_append]
      show _ + 1 + (Lib.itoa (m : Int)).toArray.size ≤ _
      rw [List.size_toArray]
      omega
    · rw [wr_id (by omega) (by omega), ByteArray.append_assoc]
      exact ih
theorem opOk_kind {o a b c d : Int} (h : opOkB o a b c d = true) : 1 ≤ o ∧ o ≤ 8 ∧ ∀ n ∈ [a, b, c, d], 0 ≤ n ∧ n ≤ 255 := by
  unfold opOkB at h
  simp only [List.mem_cons, List.not_mem_nil, or_false, forall_eq_or_imp, forall_eq]
  split at h
  · simp at h; omega
  · split at h
    · simp at h; omega
    · split at h
      · simp at h; omega
      · simp at h; omega
theorem word_some (k : Nat) (h : k < 9) : spec_l7Word.f (k : Int) = some (formW k, (formN k : Int)) := by
  match k, h with
  | 0, _ => rfl
  | 1, _ => rfl
  | 2, _ => rfl
  | 3, _ => rfl
  | 4, _ => rfl
  | 5, _ => rfl
  | 6, _ => rfl
  | 7, _ => rfl
  | 8, _ => rfl
/-- What is done, as text. -/
def opTextF (o a b c d : Int) : ByteArray := if opOkB o a b c d then txtI (formW o.toNat) ([a, b, c, d].take (formN o.toNat)) else ⟨#[]⟩
theorem spec_OpText_tot (o a b c d : Int) : Tot (fun k => spec_OpText.f k o a b c d) (fun r => r = opTextF o a b c d) := by
  unfold spec_OpText.f opTextF
  refine Tot.bind (Tot.of_eq (spec_OpOk_some o a b c d)) ?_
  rintro _ rfl
  cases h : opOkB o a b c d with
  | false => exact Tot.neg (by decide) (Tot.ret rfl)
  | true =>
    obtain ⟨h1, h8, hn⟩ := opOk_kind h
    obtain ⟨k, rfl⟩ := Int.eq_ofNat_of_zero_le (show 0 ≤ o by omega)
    refine Tot.pos rfl ?_
    refine Tot.bind (Tot.of_eq (word_some k (by omega))) ?_
    rintro _ rfl
    exact otext_tot (formW k) (formW_len k (by omega)) a b c d (fun n h => ⟨(hn n h).1, by have := (hn n h).2; omega⟩) (formN k) (formN_le k (by omega)) (formN k) 0 (by omega)
theorem impl_OpText_tot (o a b c d : Int) : Tot (fun k => impl_OpText.f k o a b c d) (fun r => r = opTextF o a b c d) := by
  refine Tot.succ ?_
  unfold impl_OpText.f opTextF
  refine Tot.bind (Tot.succ (Tot.succ (Tot.of_eq (impl_OpOk_some 0 o a b c d)))) ?_
  rintro _ rfl
  cases h : opOkB o a b c d with
  | false => exact Tot.neg (by decide) (Tot.ret rfl)
  | true =>
    obtain ⟨h1, h8, hn⟩ := opOk_kind h
    refine Tot.pos rfl ?_
    unfold opTextI
    rw [if_pos ⟨by omega, by omega, fun n h => ⟨by have := hn n h; omega, by have := hn n h; omega⟩⟩]
    exact Tot.ret rfl
end Go.Proofs.YtfafjpfigphchaaDoor.X
namespace Go.Proofs.YtfafjpfigphchaaDoor.X
open Go.RowKit Go.Proofs.YtfafjpfigphchaaDoorW.PrintWords Go.Proofs.YtfafjpfigphchaaDoor.Pl
set_option linter.unusedSimpArgs false
set_option linter.unusedVariables false
theorem ba_ext {a b : ByteArray} (h : a.data.toList = b.data.toList) : a = b := by
  obtain ⟨a⟩ := a; obtain ⟨b⟩ := b
  exact congrArg ByteArray.mk (Array.toList_inj.1 h)
theorem ba_app (a b : ByteArray) : (a ++ b).data.toList = a.data.toList ++ b.data.toList := by
  rw [ByteArray.data_append, Array.toList_append]
theorem ba_size (a : ByteArray) : a.size = a.data.toList.length := by
  show a.data.size = _
  rw [Array.length_toList]
theorem ba_mk (l : List UInt8) : (⟨l.toArray⟩ : ByteArray).data.toList = l := rfl
def opT (x : Op) : ByteArray := opTextF x.f0 x.f1 x.f2 x.f3 x.f4
def joinT (xs : List ByteArray) : ByteArray := ⟨(Lib.join (xs.map (·.data.toList)) [44]).toArray⟩
theorem joinT_one (x : ByteArray) : joinT [x] = x := ba_ext (by rw [joinT, ba_mk, List.map_cons, List.map_nil, Lib.join_one])
theorem joinT_snoc (xs : List ByteArray) (h : xs ≠ []) (y : ByteArray) : joinT (xs ++ [y]) = (joinT xs ++ ⟨#[44]⟩) ++ y := by
  obtain ⟨x, r, rfl⟩ := List.exists_cons_of_ne_nil h
  apply ba_ext
  rw [ba_app, ba_app, joinT, joinT, ba_mk, ba_mk, List.cons_append, List.map_cons, List.map_cons, Lib.join_cons, Lib.join_cons, List.map_append, List.map_cons, List.map_nil]
  simp [Lib.joinTail]
theorem opT_len (x : Op) : (opT x).size ≤ 1000 := by
  unfold opT opTextF
  split
  · rename_i h
    obtain ⟨h1, h8, hn⟩ := opOk_kind h
    refine txtI_len _ _ (fun n h => ?_) (formW_len _ (by omega)) (by simp; omega)
    have := hn n (List.mem_of_mem_take h)
    exact ⟨by omega, by omega⟩
  · show 0 ≤ _
    omega
theorem joinT_len (xs : List ByteArray) (h : ∀ x ∈ xs, x.size ≤ 1000) : (joinT xs).size ≤ 1001 * xs.length := by
  cases xs with
  | nil => exact Nat.le_refl _
  | cons x r =>
    rw [ba_size, joinT, ba_mk, List.map_cons, Lib.join_cons, List.length_append, Lib.joinTail_length]
    have h0 := h x (List.mem_cons_self ..)
    rw [ba_size] at h0
    have key : ∀ r : List ByteArray, (∀ x ∈ r, x.size ≤ 1000) → Lib.lens (r.map (·.data.toList)) ≤ 1000 * r.length := by
      intro r
      induction r with
      | nil => intro _; exact Nat.le_refl _
      | cons y r ih =>
        intro h
        have h1 := ih (fun z hz => h z (List.mem_cons_of_mem _ hz))
        have h2 := h y (List.mem_cons_self ..)
        rw [ba_size] at h2
        simp only [Lib.lens, List.map_cons, List.sum_cons, List.length_cons] at h1 ⊢
        omega
    have := key r (fun z hz => h z (List.mem_cons_of_mem _ hz))
    simp only [List.length_map, List.length_cons, List.length_nil]
    omega
/-- All that is done, as text. -/
def opsF (l : List Op) : ByteArray := if l.length = 0 then ⟨#[45]⟩ else joinT (l.map opT)
theorem opsF_len (l : List Op) (h : l.length ≤ 5) : (opsF l).size ≤ 5100 := by
  unfold opsF
  split
  · show 1 ≤ _
    omega
  · have := joinT_len (l.map opT) (fun x hx => by obtain ⟨y, _, rfl⟩ := List.mem_map.1 hx; exact opT_len y)
    rw [List.length_map] at this
    omega
theorem take_opT (l : List Op) (i : Nat) (h : i < l.length) : (l.map opT).take (i + 1) = (l.map opT).take i ++ [opT (opAt l i)] := by
  rw [List.take_add_one, List.getElem?_eq_getElem (by simpa using h)]
  simp [opAt, rd_T23, List.getD_eq_getElem?_getD, h]
theorem take_len (l : List Op) (i : Nat) (h : i ≤ l.length) : ((l.map opT).take i).length = i := by simp; omega
theorem take_small (l : List Op) (i : Nat) (h : l.length ≤ 5) : (joinT ((l.map opT).take i)).size ≤ 5005 := by
  have := joinT_len ((l.map opT).take i) (fun x hx => by obtain ⟨y, _, rfl⟩ := List.mem_map.1 (List.mem_of_mem_take hx); exact opT_len y)
  have h2 : ((l.map opT).take i).length ≤ 5 := by simp; omega
  omega
theorem l7Ops_tot (l : List Op) (hl : l.length ≤ 5) : ∀ e i, i + e = l.length → Tot (fun k => spec_l7Ops.l0 k l (joinT ((l.map opT).take i)) i) (fun r => r = joinT (l.map opT))
  | 0, i, h => by
    refine Tot.succ ?_
    simp only [spec_l7Ops.l0]
    refine Tot.neg (by omega) (Tot.ret ?_)
    rw [List.take_of_length_le (by simp; omega)]
  | e + 1, i, h => by
    have ih := l7Ops_tot l hl e (i + 1) (by omega)
    have hs := take_small l i hl
    have ht := opT_len (opAt l i)
    rw [take_opT l i (by omega)] at ih
    refine Tot.succ ?_
    simp only [spec_l7Ops.l0]
    refine Tot.pos (by omega) ?_
    by_cases h0 : i = 0
    · subst h0
      refine Tot.neg (by omega) (Tot.pos (by omega) ?_)
      refine Tot.bind (spec_OpText_tot _ _ _ _ _) ?_
      rintro _ rfl
      have e0 : (⟨#[]⟩ : ByteArray) ++ opT (opAt l 0) = opT (opAt l 0) := ba_ext (by rw [ba_app]; rfl)
      have e1 : joinT ((l.map opT).take 0) = ⟨#[]⟩ := rfl
      rw [List.take_zero, List.nil_append, joinT_one] at ih
      rw [e1]
      refine Tot.pos (by show 0 + (opT (opAt l 0)).size ≤ _; omega) ?_
      rw [wr_id (by omega) (by omega)]
      show Tot (fun k => spec_l7Ops.l0 k l ((⟨#[]⟩ : ByteArray) ++ opT (opAt l 0)) _) _
      rw [e0]
      exact ih
    · have hne : (l.map opT).take i ≠ [] := by
        intro hh
        have := congrArg List.length hh
        rw [take_len l i (by omega)] at this
        exact h0 (by simpa using this)
      rw [joinT_snoc _ hne] at ih
      refine Tot.pos (by omega) (Tot.pos (by omega) (Tot.pos (by omega) ?_))
      refine Tot.bind (spec_OpText_tot _ _ _ _ _) ?_
      rintro _ rfl
      refine Tot.pos ?_ ?_
      · rw [ByteArray.size_append]
        show _ + 1 + (opT (opAt l i)).size ≤ _
        omega
      · rw [wr_id (by omega) (by omega)]
        exact ih
theorem spec_l7Ops_tot (l : List Op) (hl : l.length ≤ 5) : Tot (fun k => spec_l7Ops.f k l) (fun r => r = opsF l) := by
  unfold spec_l7Ops.f opsF
  by_cases h : l.length = 0
  · rw [if_pos h]
    exact Tot.pos (by omega) (Tot.ret rfl)
  · rw [if_neg h]
    exact Tot.neg (by omega) (l7Ops_tot l hl l.length 0 (by omega))
/-- What is asked, as text. -/
def askI (ops path : ByteArray) (till : Int) : ByteArray := (((((⟨#[47]⟩ : ByteArray) ++ ops) ++ (⟨#[47]⟩ : ByteArray)) ++ path) ++ (⟨#[63, 101, 61]⟩ : ByteArray)) ++ ⟨(Lib.itoa till).toArray⟩
def askF (l : List Op) (path : ByteArray) (till : Int) : ByteArray := if askB l path till then askI (opsF l) path till else ⟨#[]⟩
theorem askB_parts {l : List Op} {path : ByteArray} {till : Int} (h : askB l path till = true) : l.length ≤ 5 ∧ (1 ≤ path.size ∧ path.size ≤ 6) ∧ 0 ≤ till ∧ till ≤ 9999 := by
  simp only [askB, allOkB, nameB, Bool.and_eq_true, decide_eq_true_eq] at h
  exact ⟨h.1.1, h.2.1.1, h.2.2.1, h.2.2.2⟩
theorem spec_AskText_tot (l : List Op) (hl : l.length ≤ 4611686018427387904) (path : ByteArray) (till : Int) : Tot (fun k => spec_AskText.f k l path till) (fun r => r = askF l path till) := by
  unfold spec_AskText.f askF
  refine Tot.bind (Tot.of_ev (spec_AskOk_ev l hl path till)) ?_
  rintro _ rfl
  cases h : askB l path till with
  | false => exact Tot.neg (by decide) (Tot.ret rfl)
  | true =>
    obtain ⟨h5, hp, ht0, ht1⟩ := askB_parts h
    obtain ⟨n, rfl⟩ := Int.eq_ofNat_of_zero_le ht0
    have ho := opsF_len l h5
    have hi := Lib.itoa_length_le (n : Int) (by omega) (by omega)
    refine Tot.pos rfl ?_
    refine Tot.bind (spec_l7Ops_tot l h5) ?_
    rintro _ rfl
    refine Tot.pos (by omega) (Tot.pos ?_ (Tot.pos ?_ (Tot.pos ?_ ?_)))
    · rw [ByteArray.size_append]; show 1 + _ + 1 ≤ _; omega
    · rw [ByteArray.size_append, ByteArray.size_append]; show 1 + _ + 1 + _ ≤ _; omega
    · rw [ByteArray.size_append, ByteArray.size_append, ByteArray.size_append]; show 1 + _ + 1 + _ + 3 ≤ _; omega
    · refine Tot.bind (plainF_tot n (by omega)) ?_
      rintro _ rfl
      refine Tot.pos ?_ (Tot.ret rfl)
      rw [ByteArray.size_append, ByteArray.size_append, ByteArray.size_append, ByteArray.size_append]
      show 1 + _ + 1 + _ + 3 + (Lib.itoa (n : Int)).toArray.size ≤ _
      rw [List.size_toArray]
      omega
theorem impl_askLoop_tot (l : List Op) (h5 : l.length ≤ 5) (path : ByteArray) (hp : path.size ≤ 6) (n : Nat) (hn : n ≤ 9999) : ∀ e i, i + e = l.length → Tot (fun k => impl_AskText.l0 k ((l.map opT).take i) l l.length i l path n) (fun r => r = askI (opsF l) path n)
  | 0, i, h => by
    have ho := opsF_len l h5
    have hi := Lib.itoa_length_le (n : Int) (by omega) (by omega)
    have hI : strconv_Itoa_40.f (n : Int) = some ⟨(Lib.itoa (n : Int)).toArray⟩ := by unfold strconv_Itoa_40.f; rw [if_pos ⟨by omega, by omega⟩]
    refine Tot.succ ?_
    simp only [impl_AskText.l0]
    refine Tot.neg (by omega) ?_
    rw [List.take_of_length_le (by simp; omega)]
    by_cases h0 : l.length = 0
    · refine Tot.neg (by rw [List.length_map]; omega) ?_
      have e : opsF l = ⟨#[45]⟩ := by unfold opsF; rw [if_pos h0]
      rw [e]
      refine Tot.pos (by omega) (Tot.pos ?_ (Tot.pos ?_ ?_))
      · rw [ByteArray.size_append]; show 1 + 1 + 1 + _ ≤ _; omega
      · rw [ByteArray.size_append, ByteArray.size_append]; show 1 + 1 + 1 + _ + 3 ≤ _; omega
      · refine Tot.bind (Tot.of_eq hI) ?_
        rintro _ rfl
        refine Tot.pos ?_ (Tot.ret rfl)
        rw [ByteArray.size_append, ByteArray.size_append]
        show 1 + 1 + 1 + _ + 3 + (Lib.itoa (n : Int)).toArray.size ≤ _
        rw [List.size_toArray]
        omega
    · refine Tot.pos (by rw [List.length_map]; omega) ?_
      have e : opsF l = joinT (l.map opT) := by unfold opsF; rw [if_neg h0]
      have hJ : strings_Join.f (l.map opT) ⟨#[44]⟩ = some (opsF l) := by
        have hh := opsF_len l h5
        rw [e, ba_size] at hh
        unfold strings_Join.f
        rw [if_pos ⟨by simp; omega, by have : (Lib.join ((l.map opT).map (·.data.toList)) [44]).length ≤ 5100 := hh; show (Lib.join _ [44]).length ≤ _; omega⟩, e]
        rfl
      refine Tot.bind (Tot.of_eq hJ) ?_
      rintro _ rfl
      refine Tot.pos (by omega) (Tot.pos ?_ (Tot.pos ?_ (Tot.pos ?_ ?_)))
      · rw [ByteArray.size_append]; show 1 + _ + 1 ≤ _; omega
      · rw [ByteArray.size_append, ByteArray.size_append]; show 1 + _ + 1 + _ ≤ _; omega
      · rw [ByteArray.size_append, ByteArray.size_append, ByteArray.size_append]; show 1 + _ + 1 + _ + 3 ≤ _; omega
      · refine Tot.bind (Tot.of_eq hI) ?_
        rintro _ rfl
        refine Tot.pos ?_ (Tot.ret rfl)
        rw [ByteArray.size_append, ByteArray.size_append, ByteArray.size_append, ByteArray.size_append]
        show 1 + _ + 1 + _ + 3 + (Lib.itoa (n : Int)).toArray.size ≤ _
        rw [List.size_toArray]
        omega
  | e + 1, i, h => by
    have ih := impl_askLoop_tot l h5 path hp n hn e (i + 1) (by omega)
    rw [take_opT l i (by omega)] at ih
    refine Tot.succ ?_
    simp only [impl_AskText.l0]
    refine Tot.pos (by omega) (Tot.pos (by omega) (Tot.pos (by omega) ?_))
    refine Tot.bind (impl_OpText_tot _ _ _ _ _) ?_
    rintro _ rfl
    refine Tot.pos (by rw [take_len l i (by omega)]; omega) ?_
    rw [wr_id (by omega) (by omega)]
    exact ih
theorem impl_AskText_tot (l : List Op) (hl : l.length ≤ 4611686018427387904) (path : ByteArray) (till : Int) : Tot (fun k => impl_AskText.f k l path till) (fun r => r = askF l path till) := by
  unfold impl_AskText.f askF
  refine Tot.bind (Tot.of_ev (impl_AskOk_ev l hl path till)) ?_
  rintro _ rfl
  cases h : askB l path till with
  | false => exact Tot.neg (by decide) (Tot.ret rfl)
  | true =>
    obtain ⟨h5, hp, ht0, ht1⟩ := askB_parts h
    obtain ⟨n, rfl⟩ := Int.eq_ofNat_of_zero_le ht0
    refine Tot.pos rfl (Tot.pos (by omega) (Tot.pos (by omega) ?_))
    exact impl_askLoop_tot l h5 path hp.2 n (by omega) l.length 0 (by omega)
end Go.Proofs.YtfafjpfigphchaaDoor.X
namespace Go.Proofs.YtfafjpfigphchaaDoor.X
open Go.RowKit Go.Proofs.YtfafjpfigphchaaDoorW.PrintWords Go.Proofs.YtfafjpfigphchaaDoor.Pl
set_option linter.unusedSimpArgs false
set_option linter.unusedVariables false
/-- What stands between the signs. -/
def parts (c : UInt8) : List UInt8 → List (List UInt8)
  | [] => [[]]
  | x :: xs => if x = c then [] :: parts c xs else (match parts c xs with | [] => [[x]] | h :: t => (x :: h) :: t)
theorem parts_none {c : UInt8} : ∀ {a : List UInt8}, c ∉ a → parts c a = [a]
  | [], _ => rfl
  | x :: a, h => by
    simp only [List.mem_cons, not_or] at h
    rw [parts, if_neg (fun e => h.1 e.symm), parts_none h.2]
theorem parts_app {c : UInt8} {b : List UInt8} : ∀ {a : List UInt8}, c ∉ a → parts c (a ++ c :: b) = a :: parts c b
  | [], _ => by rw [List.nil_append, parts, if_pos rfl]
  | x :: a, h => by
    simp only [List.mem_cons, not_or] at h
    rw [List.cons_append, parts, if_neg (fun e => h.1 e.symm), parts_app h.2]
/-- The number that digits say. -/
def numOf (l : List UInt8) : Nat := l.foldl (fun a d => 10 * a + (d.toNat - 48)) 0
theorem numOf_snoc (l : List UInt8) (d : UInt8) : numOf (l ++ [d]) = 10 * numOf l + (d.toNat - 48) := by simp [numOf, List.foldl_append]
theorem dig_toNat (k : Nat) (h : k < 10) : (UInt8.ofNat (48 + k)).toNat = 48 + k := by
  rw [UInt8.toNat_ofNat']; omega
theorem dec_num (n : Nat) : numOf (Lib.decDigits n) = n := by
  induction n using Nat.strongRecOn with
  | _ n ih =>
    rw [Lib.decDigits.eq_def]
    split
    · rename_i h
      show 10 * 0 + ((UInt8.ofNat (48 + n)).toNat - 48) = n
      rw [dig_toNat n h]
      omega
    · rename_i h
      rw [numOf_snoc, ih (n / 10) (by omega), dig_toNat _ (by omega)]
      omega
theorem dec_dig (n : Nat) : ∀ d ∈ Lib.decDigits n, 48 ≤ d.toNat ∧ d.toNat ≤ 57 := by
  induction n using Nat.strongRecOn with
  | _ n ih =>
    intro d hd
    rw [Lib.decDigits.eq_def] at hd
    split at hd
    · rename_i h
      obtain rfl := List.mem_singleton.1 hd
      rw [dig_toNat n h]
      omega
    · rename_i h
      rcases List.mem_append.1 hd with h1 | h1
      · exact ih (n / 10) (by omega) d h1
      · obtain rfl := List.mem_singleton.1 h1
        rw [dig_toNat _ (by omega)]
        omega
theorem itoa_dig (n : Nat) : ∀ d ∈ Lib.itoa (n : Int), 48 ≤ d.toNat ∧ d.toNat ≤ 57 := by rw [Lib.itoa_nonneg]; exact dec_dig n
theorem itoa_no {c : UInt8} (hc : c.toNat < 48 ∨ 57 < c.toNat) (n : Nat) : c ∉ Lib.itoa (n : Int) := fun h => by
  have := itoa_dig n c h
  omega
theorem itoa_inj {m n : Nat} (h : Lib.itoa (m : Int) = Lib.itoa (n : Int)) : m = n := by
  rw [Lib.itoa_nonneg, Lib.itoa_nonneg] at h
  have := congrArg numOf h
  rwa [dec_num, dec_num] at this
/-- An operation's text, sign by sign. -/
def opL (W : List UInt8) (ns : List Int) : List UInt8 := W ++ ns.flatMap fun n => 46 :: Lib.itoa n
theorem txtI_list (W : ByteArray) (ns : List Int) : (txtI W ns).data.toList = opL W.data.toList ns := by
  induction ns generalizing W with
  | nil => simp [opL, txtI]
  | cons n ns ih =>
    show (txtI (W ++ numT n) ns).data.toList = _
    rw [ih, ba_app]
    have e : (numT n).data.toList = 46 :: Lib.itoa n := by
      unfold numT
      rw [ba_app]
      rfl
    rw [e]
    simp [opL]
theorem parts_opL (W : List UInt8) (hW : (46 : UInt8) ∉ W) : ∀ ns : List Int, (∀ n ∈ ns, 0 ≤ n) → parts 46 (opL W ns) = W :: ns.map Lib.itoa := by
  intro ns hns
  have key : ∀ ns : List Int, (∀ n ∈ ns, 0 ≤ n) → ∀ A : List UInt8, (46 : UInt8) ∉ A → parts 46 (A ++ ns.flatMap fun n => 46 :: Lib.itoa n) = A :: ns.map Lib.itoa := by
    intro ns
    induction ns with
    | nil => intro _ A hA; rw [List.flatMap_nil, List.append_nil, parts_none hA]; rfl
    | cons n ns ih =>
      intro h A hA
      obtain ⟨m, rfl⟩ := Int.eq_ofNat_of_zero_le (h n (List.mem_cons_self ..))
      rw [List.flatMap_cons, List.cons_append, parts_app hA, ih (fun x hx => h x (List.mem_cons_of_mem _ hx)) _ (itoa_no (by decide) m)]
      rfl
  exact key ns hns W hW
theorem formW_sign (k : Nat) (h : k < 9) : ∀ c ∈ (formW k).data.toList, 97 ≤ c.toNat ∧ c.toNat ≤ 122 := by
  match k, h with
  | 0, _ => decide
  | 1, _ => decide
  | 2, _ => decide
  | 3, _ => decide
  | 4, _ => decide
  | 5, _ => decide
  | 6, _ => decide
  | 7, _ => decide
  | 8, _ => decide
theorem formW_no {c : UInt8} (hc : c.toNat < 97) (k : Nat) (h : k < 9) : c ∉ (formW k).data.toList := fun hm => by
  have := formW_sign k h c hm
  omega
theorem formW_inj : ∀ a b : Fin 9, (formW a.val).data.toList = (formW b.val).data.toList → a = b := by decide
theorem map_itoa_inj : ∀ {a b : List Int}, (∀ n ∈ a, 0 ≤ n) → (∀ n ∈ b, 0 ≤ n) → a.map Lib.itoa = b.map Lib.itoa → a = b
  | [], [], _, _, _ => rfl
  | [], _ :: _, _, _, h => by cases h
  | _ :: _, [], _, _, h => by cases h
  | x :: a, y :: b, hx, hy, h => by
    simp only [List.map_cons, List.cons.injEq] at h
    obtain ⟨m, rfl⟩ := Int.eq_ofNat_of_zero_le (hx x (List.mem_cons_self ..))
    obtain ⟨n, rfl⟩ := Int.eq_ofNat_of_zero_le (hy y (List.mem_cons_self ..))
    rw [itoa_inj h.1, map_itoa_inj (fun z hz => hx z (List.mem_cons_of_mem _ hz)) (fun z hz => hy z (List.mem_cons_of_mem _ hz)) h.2]
/-- What may be done is of a kind, and beyond its numbers has none. -/
theorem opOk_rest {o a b c d : Int} (h : opOkB o a b c d = true) : ∃ k : Nat, o = k ∧ 1 ≤ k ∧ k < 9 ∧ (∀ n ∈ [a, b, c, d], 0 ≤ n ∧ n ≤ 255) ∧ [a, b, c, d] = [a, b, c, d].take (formN k) ++ List.replicate (4 - formN k) 0 := by
  obtain ⟨h1, h8, hn⟩ := opOk_kind h
  obtain ⟨k, rfl⟩ := Int.eq_ofNat_of_zero_le (show 0 ≤ o by omega)
  refine ⟨k, rfl, by omega, by omega, hn, ?_⟩
  have hk : k = 1 ∨ k = 2 ∨ k = 3 ∨ k = 4 ∨ k = 5 ∨ k = 6 ∨ k = 7 ∨ k = 8 := by omega
  rcases hk with rfl | rfl | rfl | rfl | rfl | rfl | rfl | rfl
  · rfl
  all_goals
    simp [opOkB] at h
    simp [formN, formsL, List.replicate, h]
theorem opTextF_list {o a b c d : Int} (h : opOkB o a b c d = true) : (opTextF o a b c d).data.toList = opL (formW o.toNat).data.toList ([a, b, c, d].take (formN o.toNat)) := by
  unfold opTextF
  rw [if_pos h, txtI_list]
theorem opTextF_inj {o a b c d o' a' b' c' d' : Int} (h : opOkB o a b c d = true) (h' : opOkB o' a' b' c' d' = true) (e : opTextF o a b c d = opTextF o' a' b' c' d') : o = o' ∧ a = a' ∧ b = b' ∧ c = c' ∧ d = d' := by
  obtain ⟨k, rfl, k1, k9, hn, hr⟩ := opOk_rest h
  obtain ⟨k', rfl, k1', k9', hn', hr'⟩ := opOk_rest h'
  have e1 := congrArg (fun x : ByteArray => x.data.toList) e
  (try dsimp only at e1)
  rw [opTextF_list h, opTextF_list h'] at e1
  simp only [Int.toNat_natCast] at e1
  have p1 := parts_opL _ (formW_no (c := 46) (by decide) k k9) ([a, b, c, d].take (formN k)) (fun n h => (hn n (List.mem_of_mem_take h)).1)
  have p2 := parts_opL _ (formW_no (c := 46) (by decide) k' k9') ([a', b', c', d'].take (formN k')) (fun n h => (hn' n (List.mem_of_mem_take h)).1)
  rw [e1, p2] at p1
  simp only [List.cons.injEq] at p1
  have ek : k' = k := congrArg Fin.val (formW_inj ⟨k', k9'⟩ ⟨k, k9⟩ p1.1)
  subst ek
  have en := map_itoa_inj (fun n h => (hn' n (List.mem_of_mem_take h)).1) (fun n h => (hn n (List.mem_of_mem_take h)).1) p1.2
  rw [en, ← hr] at hr'
  simp only [List.cons.injEq, and_true] at hr'
  exact ⟨rfl, hr'.1.symm, hr'.2.1.symm, hr'.2.2.1.symm, hr'.2.2.2.symm⟩
end Go.Proofs.YtfafjpfigphchaaDoor.X
namespace Go.Proofs.YtfafjpfigphchaaDoor.X
open Go.RowKit Go.Proofs.YtfafjpfigphchaaDoorW.PrintWords Go.Proofs.YtfafjpfigphchaaDoor.Pl
set_option linter.unusedSimpArgs false
set_option linter.unusedVariables false
def baOf (l : List UInt8) : ByteArray := ⟨l.toArray⟩
theorem baOf_list (l : List UInt8) : (baOf l).data.toList = l := rfl
theorem baOf_self (s : ByteArray) : baOf s.data.toList = s := ba_ext rfl
theorem toList_ba {a b : ByteArray} : a.toList = b.toList ↔ a = b := by
  rw [Lib.toList_data, Lib.toList_data]
  exact ⟨fun h => ba_ext h, fun h => by rw [h]⟩
theorem bt_nat (s : ByteArray) (i : Nat) (h : i < s.data.toList.length) : bt s (i : Int) = ((s.data.toList[i]).toNat : Int) := by
  have hs : i < s.size := by rw [ba_size]; exact h
  unfold bt
  rw [Int.toNat_natCast, dif_pos hs]
  have e : s[i] = s.data.toList[i] := by
    rw [Array.getElem_toList]
    rfl
  rw [e]
/-! ### Where a sign first stands -/
theorem index_none_ {l : List UInt8} {c : UInt8} (h : c ∉ l) : Lib.index l [c] = -1 := by
  rw [Lib.index_one]
  have hge := Lib.indexByte_ge l c
  rcases Int.lt_or_le (Lib.indexByte l c) 0 with h0 | h0
  · omega
  · obtain ⟨o, ho⟩ := Int.eq_ofNat_of_zero_le h0
    exact absurd (List.mem_of_getElem? (Lib.indexByte_some ho).1) h
theorem index_app {a b : List UInt8} {c : UInt8} (h : c ∉ a) : Lib.index (a ++ c :: b) [c] = (a.length : Int) := by
  rw [Lib.index_one]
  induction a with
  | nil => simp [Lib.indexByte]
  | cons x a ih =>
    simp only [List.mem_cons, not_or] at h
    have ih := ih h.2
    rw [List.cons_append, Lib.indexByte, if_neg (fun e => h.1 (beq_iff_eq.1 e).symm), ih, if_neg (fun e => by have := beq_iff_eq.1 e; omega), List.length_cons]
    omega
theorem split_at {c : UInt8} : ∀ l : List UInt8, c ∉ l ∨ ∃ a b, l = a ++ c :: b ∧ c ∉ a
  | [] => .inl (by simp)
  | x :: l => by
    by_cases hx : x = c
    · exact .inr ⟨[], l, by rw [hx]; rfl, by simp⟩
    · rcases split_at (c := c) l with h | ⟨a, b, rfl, h⟩
      · exact .inl (by simp only [List.mem_cons, not_or]; exact ⟨fun e => hx e.symm, h⟩)
      · exact .inr ⟨x :: a, b, rfl, by simp only [List.mem_cons, not_or]; exact ⟨fun e => hx e.symm, h⟩⟩
theorem cut_none {l : List UInt8} {c : UInt8} (h : c ∉ l) : Lib.cut l [c] = (l, [], false) := by
  unfold Lib.cut
  rw [index_none_ h, if_neg (by omega)]
theorem cut_app {a b : List UInt8} {c : UInt8} (h : c ∉ a) : Lib.cut (a ++ c :: b) [c] = (a, b, true) := by
  unfold Lib.cut
  rw [index_app h, if_pos (by omega), Int.toNat_natCast]
  simp
theorem splitK_parts {c : UInt8} : ∀ (n : Nat) (l : List UInt8), l.length ≤ n → Lib.splitK [c] 0 (Lib.count l [c]) l = parts c l
  | 0, l, h => by
    obtain rfl := List.eq_nil_of_length_eq_zero (Nat.le_zero.1 h)
    rw [Lib.count_miss (index_none_ (by simp))]
    rfl
  | n + 1, l, h => by
    rcases split_at (c := c) l with hn | ⟨a, b, rfl, ha⟩
    · rw [Lib.count_miss (index_none_ hn), parts_none hn]
      rfl
    · rw [List.length_append, List.length_cons] at h
      have e1 : (a ++ c :: b).drop (a.length + [c].length) = b := by simp
      have e2 : (a ++ c :: b).take (a.length + 0) = a := by simp
      rw [Lib.count_hit (by simp) (index_app ha), e1, Nat.add_comm 1, Lib.splitK, index_app ha, if_neg (fun e => by have := beq_iff_eq.1 e; omega), Int.toNat_natCast, e1, e2, splitK_parts n b (by omega), parts_app ha]
theorem partsB_parts (s : ByteArray) (c : UInt8) : partsB s ⟨#[c]⟩ = (parts c s.data.toList).map baOf := by
  have h := Lib.splitB_data ⟨#[c]⟩ 0 (Lib.countB s ⟨#[c]⟩) s
  have h2 := splitK_parts (c := c) s.data.toList.length s.data.toList (Nat.le_refl _)
  have h3 : (partsB s ⟨#[c]⟩).map (·.data.toList) = parts c s.data.toList := h.trans h2
  rw [← h3, List.map_map]
  refine ((List.map_congr_left (g := id) (fun x _ => ?_)).trans (List.map_id _)).symm
  exact baOf_self x
/-! ### The reference cuts the same way -/
def glue (w : List UInt8) : List (List UInt8) → List (List UInt8)
  | [] => [w]
  | h :: t => (w ++ h) :: t
theorem glue_nil {c : UInt8} (l : List UInt8) : glue [] (parts c l) = parts c l := by
  cases l with
  | nil => rfl
  | cons x l =>
    rw [parts]
    split
    · rfl
    · split <;> rfl
theorem parts_len {c : UInt8} : ∀ l : List UInt8, (parts c l).length ≤ l.length + 1 ∧ 1 ≤ (parts c l).length
  | [] => ⟨by simp [parts], by simp [parts]⟩
  | x :: l => by
    have ih := parts_len (c := c) l
    rw [parts]
    split
    · simp only [List.length_cons]; omega
    · split
      · simp
      · rename_i h t e
        rw [e] at ih
        simp only [List.length_cons] at ih ⊢
        omega
theorem l7Cut_loop (s : ByteArray) (c : UInt8) (hs : s.size ≤ 1048576) : ∀ e i, i + e = s.size → ∀ (acc : List ByteArray) (w : List UInt8), acc.length ≤ i → w.length ≤ i → Tot (fun k => spec_l7Cut.l0 k s (c.toNat : Int) acc (baOf w) i) (fun r => r = acc ++ (glue w (parts c (s.data.toList.drop i))).map baOf)
  | 0, i, h, acc, w, ha, hw => by
    refine Tot.succ ?_
    simp only [spec_l7Cut.l0]
    refine Tot.neg (by omega) (Tot.pos (by omega) (Tot.ret ?_))
    rw [List.drop_of_length_le (by rw [← ba_size]; omega)]
    simp [parts, glue]
  | e + 1, i, h, acc, w, ha, hw => by
    have hi : i < s.data.toList.length := by rw [← ba_size]; omega
    have hd := List.drop_eq_getElem_cons hi
    obtain ⟨x, hx⟩ : ∃ x, s.data.toList[i] = x := ⟨_, rfl⟩
    rw [hx] at hd
    have hb : bt s (i : Int) = (x.toNat : Int) := by rw [bt_nat s i hi, hx]
    refine Tot.succ ?_
    simp only [spec_l7Cut.l0]
    refine Tot.pos (by omega) (Tot.pos (by omega) ?_)
    rw [hb, hd, parts]
    by_cases hc : x = c
    · refine Tot.pos (by rw [hc]) (Tot.pos (by omega) ?_)
      rw [wr_id (by omega) (by omega), if_pos hc]
      refine Tot.mono (l7Cut_loop s c hs e (i + 1) (by omega) (acc ++ [baOf w]) [] (by simp; omega) (by simp)) ?_
      rintro r rfl
      rw [glue_nil]
      simp [glue]
    · have hcn : ¬ ((x.toNat : Int) = (c.toNat : Int)) := fun e => hc (UInt8.toNat_inj.1 (by omega))
      have he : s.extract ((i : Int)).toNat (((i + 1 : Nat) : Int)).toNat = baOf [x] := by
        apply ba_ext
        rw [ByteArray.data_extract, Array.toList_extract, Int.toNat_natCast, Int.toNat_natCast, baOf_list]
        have : s.data.toList.extract i (i + 1) = [x] := by
          rw [List.extract_eq_take_drop, hd]
          simp
        exact this
      refine Tot.neg hcn ?_
      rw [wr_id (by omega) (by omega), show ((i : Int) + 1) = ((i + 1 : Nat) : Int) by omega, he]
      refine Tot.pos (by omega) (Tot.pos (by omega) (Tot.pos ?_ ?_))
      · rw [ba_size, ba_size, baOf_list, baOf_list]; simp only [List.length_cons, List.length_nil]; omega
      rw [if_neg hc]
      have hw2 : baOf w ++ baOf [x] = baOf (w ++ [x]) := ba_ext (by rw [ba_app]; rfl)
      rw [hw2]
      refine Tot.mono (l7Cut_loop s c hs e (i + 1) (by omega) acc (w ++ [x]) (by omega) (by simp; omega)) ?_
      rintro r rfl
      cases hp : parts c (s.data.toList.drop (i + 1)) with
      | nil => simp [glue]
      | cons a t => simp [glue]
theorem l7Cut_tot (s : ByteArray) (c : UInt8) (hs : s.size ≤ 1048576) : Tot (fun k => spec_l7Cut.f k s (c.toNat : Int)) (fun r => r = (parts c s.data.toList).map baOf) := by
  unfold spec_l7Cut.f
  refine Tot.mono (l7Cut_loop s c hs s.size 0 (by omega) [] [] (by simp) (by simp)) ?_
  rintro r rfl
  rw [List.drop_zero, glue_nil, List.nil_append]
/-! ### Numbers -/
theorem numOf_le : ∀ l : List UInt8, numOf l ≤ 1000 ^ l.length := by
  have key : ∀ (l : List UInt8) (a n : Nat), a ≤ n → l.foldl (fun a d => 10 * a + (d.toNat - 48)) a ≤ n * 1000 ^ l.length + (1000 ^ l.length - 1) := by
    intro l
    induction l with
    | nil => intro a n h; simp; omega
    | cons d l ih =>
      intro a n h
      have hd := d.toNat_lt
      have := ih (10 * a + (d.toNat - 48)) (10 * n + 207) (by omega)
      rw [List.foldl_cons, List.length_cons, Nat.pow_succ]
      have hp : 1 ≤ 1000 ^ l.length := Nat.one_le_pow _ _ (by omega)
      have h2 : (10 * n + 207) * 1000 ^ l.length = 10 * (n * 1000 ^ l.length) + 207 * 1000 ^ l.length := by rw [Nat.add_mul, Nat.mul_assoc]
      have h3 : n * (1000 ^ l.length * 1000) = 1000 * (n * 1000 ^ l.length) := by rw [← Nat.mul_assoc, Nat.mul_comm]
      have h4 : 0 ≤ n * 1000 ^ l.length := Nat.zero_le _
      generalize n * 1000 ^ l.length = q at *
      generalize 1000 ^ l.length = p at *
      omega
  intro l
  have := key l 0 0 (Nat.le_refl _)
  have hp : 1 ≤ 1000 ^ l.length := Nat.one_le_pow _ _ (by omega)
  unfold numOf
  omega
theorem numOf_lt5 (l : List UInt8) (h : l.length ≤ 5) : numOf l ≤ 1000000000000000 := by
  have h1 := numOf_le l
  have h2 : 1000 ^ l.length ≤ 1000 ^ 5 := Nat.pow_le_pow_right (by omega) h
  have h3 : 1000 ^ 5 = 1000000000000000 := by decide
  omega
theorem take_num (l : List UInt8) (i : Nat) (h : i < l.length) : numOf (l.take (i + 1)) = 10 * numOf (l.take i) + ((l[i]).toNat - 48) := by
  rw [List.take_add_one, List.getElem?_eq_getElem h]
  exact numOf_snoc _ _
theorem numRead_loop (s : ByteArray) (h6 : s.data.toList.length ≤ 6) : ∀ e i, i + e = s.data.toList.length → Tot (fun k => impl_numberRead.l0 k s (numOf (s.data.toList.take i)) (s.data.toList.length : Int) i) (fun r => (∀ d ∈ s.data.toList, 48 ≤ d.toNat ∧ d.toNat ≤ 57) → r = ((numOf s.data.toList : Int), true))
  | 0, i, h => by
    refine Tot.succ ?_
    simp only [impl_numberRead.l0]
    refine Tot.neg (by omega) (Tot.ret (fun _ => ?_))
    rw [List.take_of_length_le (by omega)]
  | e + 1, i, h => by
    have hi : i < s.data.toList.length := by omega
    have hn := numOf_lt5 (s.data.toList.take i) (by rw [List.length_take]; omega)
    refine Tot.succ ?_
    simp only [impl_numberRead.l0]
    refine Tot.pos (by omega) (Tot.pos (by omega) (Tot.pos (by rw [ba_size]; omega) ?_))
    rw [bt_nat s i hi]
    have hm := List.getElem_mem hi
    refine Tot.ite (fun h48 => Tot.ret (fun hd => ?_)) (fun h48 => Tot.ite (fun h57 => Tot.ret (fun hd => ?_)) (fun h57 => ?_))
    · have := hd _ hm; omega
    · have := hd _ hm; omega
    have hd0 := (s.data.toList[i]).toNat_lt
    have ih := numRead_loop s h6 e (i + 1) (by omega)
    have he : wrap64 (wrap64 (10 * (numOf (s.data.toList.take i) : Int)) + ((((s.data.toList[i]).toNat : Int) - 48) % 256)) = (numOf (s.data.toList.take (i + 1)) : Int) := by
      rw [take_num _ _ hi, wr_id (x := 10 * (numOf (s.data.toList.take i) : Int)) (by omega) (by omega), wr_id (by omega) (by omega)]
      omega
    rw [he, wr_id (by omega) (by omega)]
    exact ih
theorem dec_head (n : Nat) (h0 : 0 < n) : (Lib.decDigits n).head? ≠ some 48 := by
  induction n using Nat.strongRecOn with
  | _ n ih =>
    rw [Lib.decDigits.eq_def]
    split
    · rename_i h
      intro e
      have := congrArg UInt8.toNat (Option.some.inj e)
      rw [dig_toNat n h] at this
      have h48 : (48 : UInt8).toNat = 48 := rfl
      omega
    · rename_i h
      have := ih (n / 10) (by omega) (by omega)
      cases hd : Lib.decDigits (n / 10) with
      | nil => have hp := Lib.nDigits_pos (n / 10); rw [← Lib.decDigits_length, hd] at hp; simp at hp
      | cons x l =>
        rw [hd] at this
        simpa using this
theorem itoa_le4 (n : Nat) (h : n ≤ 9999) : 1 ≤ (Lib.itoa (n : Int)).length ∧ (Lib.itoa (n : Int)).length ≤ 4 := by
  rw [Lib.itoa_nonneg, Lib.decDigits_length]
  refine ⟨Lib.nDigits_pos n, ?_⟩
  by_cases h1 : n < 10
  · rw [Lib.nDigits_small h1]; omega
  rw [Lib.nDigits_big h1]
  by_cases h2 : n / 10 < 10
  · rw [Lib.nDigits_small h2]; omega
  rw [Lib.nDigits_big h2]
  by_cases h3 : n / 10 / 10 < 10
  · rw [Lib.nDigits_small h3]; omega
  rw [Lib.nDigits_big h3, Lib.nDigits_small (by omega)]
  omega
theorem numRead_j0 (s : ByteArray) : Tot (fun k => impl_numberRead.j0 k s true) (fun r => r = (0, false)) := Tot.succ (by simp only [impl_numberRead.j0]; exact Tot.pos trivial (Tot.ret rfl))
theorem numRead_j1 (s : ByteArray) (h6 : s.data.toList.length ≤ 6) : Tot (fun k => impl_numberRead.j0 k s false) (fun r => ∀ n : Nat, s.data.toList = Lib.itoa (n : Int) → r = ((n : Int), true)) := by
  refine Tot.succ ?_
  simp only [impl_numberRead.j0]
  refine Tot.neg (by decide) ?_
  have := numRead_loop s h6 s.data.toList.length 0 (by omega)
  rw [ba_size]
  refine Tot.mono this ?_
  intro r hr n e
  have hd := hr (by rw [e]; exact itoa_dig n)
  rw [hd, e, Lib.itoa_nonneg, dec_num]
theorem numRead_tot (s : ByteArray) : Tot (fun k => impl_numberRead.f k s) (fun r => ∀ n : Nat, n ≤ 9999 → s.data.toList = Lib.itoa (n : Int) → r = ((n : Int), true)) := by
  unfold impl_numberRead.f
  have hsz := ba_size s
  refine Tot.ite (fun h0 => ?_) (fun h0 => Tot.ite (fun h6 => ?_) (fun h6 => ?_))
  · refine Tot.mono (numRead_j0 s) (fun r _ n hn e => ?_)
    rw [Lib.toList_data] at h0
    have := (itoa_le4 n hn).1
    rw [← e, h0] at this
    simp at this
  · refine Tot.mono (numRead_j0 s) (fun r _ n hn e => ?_)
    have := (itoa_le4 n hn).2
    rw [← e] at this
    omega
  · have hne : 0 < s.data.toList.length := by
      rw [Lib.toList_data] at h0
      exact List.length_pos_iff.2 h0
    refine Tot.pos (by omega) ?_
    have hj := numRead_j1 s (by omega)
    have hb := bt_nat s 0 hne
    refine Tot.ite (fun h48 => ?_) (fun h48 => Tot.mono hj (fun r hr n _ e => hr n e))
    by_cases h1 : (s.size : Int) > 1
    · rw [show decide ((s.size : Int) > 1) = true from decide_eq_true h1]
      refine Tot.mono (numRead_j0 s) (fun r _ n hn e => ?_)
      exfalso
      have hh : s.data.toList.head? = some 48 := by
        cases hl : s.data.toList with
        | nil => rw [hl] at hne; simp at hne
        | cons x l =>
          have hx : (bt s 0) = (x.toNat : Int) := by
            rw [show (0 : Int) = ((0 : Nat) : Int) from rfl, hb]
            simp [hl]
          rw [hx] at h48
          have : x = 48 := UInt8.toNat_inj.1 (by have h48' : (48 : UInt8).toNat = 48 := rfl; omega)
          rw [this]
          rfl
      rw [e, Lib.itoa_nonneg] at hh
      have hn0 : 0 < n := by
        rcases Nat.eq_zero_or_pos n with h | h
        · subst h
          have : s.data.toList.length = 1 := by rw [e, Lib.itoa_nonneg, Lib.decDigits_length, Lib.nDigits_small (by omega)]
          omega
        · exact h
      exact dec_head n hn0 hh
    · rw [show decide ((s.size : Int) > 1) = false from decide_eq_false h1]
      exact Tot.mono hj (fun r hr n _ e => hr n e)
/-- A text of digits alone is read as its number, by the reference. -/
theorem l7Num_loop (s : ByteArray) (h4 : s.data.toList.length ≤ 4) : ∀ e i, i + e = s.data.toList.length → Tot (fun k => spec_l7Num.l0 k s (numOf (s.data.toList.take i)) i) (fun r => ∀ n : Nat, s.data.toList = Lib.itoa (n : Int) → r = (n : Int))
  | 0, i, h => by
    have hn := numOf_lt5 s.data.toList (by omega)
    refine Tot.succ ?_
    simp only [spec_l7Num.l0]
    refine Tot.neg (by rw [ba_size]; omega) ?_
    rw [List.take_of_length_le (by omega)]
    refine Tot.bind (plainF_tot _ (by omega)) ?_
    rintro _ rfl
    refine Tot.ite (fun _ => Tot.ret (fun n e => ?_)) (fun hh => Tot.ret (fun n e => absurd ?_ hh))
    · rw [e, Lib.itoa_nonneg, dec_num]
    · rw [Lib.toList_data, Lib.toList_data, e]
      rw [show numOf (Lib.itoa (n : Int)) = n by rw [Lib.itoa_nonneg, dec_num]]
  | e + 1, i, h => by
    have hi : i < s.data.toList.length := by omega
    have hn := numOf_lt5 (s.data.toList.take i) (by rw [List.length_take]; omega)
    refine Tot.succ ?_
    simp only [spec_l7Num.l0]
    refine Tot.pos (by rw [ba_size]; omega) (Tot.pos (by omega) ?_)
    rw [bt_nat s i hi]
    have hm := List.getElem_mem hi
    refine Tot.ite (fun h48 => Tot.ret (fun n e => ?_)) (fun h48 => Tot.ite (fun h57 => Tot.ret (fun n e => ?_)) (fun h57 => ?_))
    · have := itoa_dig n _ (by rw [← e]; exact hm); omega
    · have := itoa_dig n _ (by rw [← e]; exact hm); omega
    have hd0 := (s.data.toList[i]).toNat_lt
    have ih := l7Num_loop s h4 e (i + 1) (by omega)
    have he : wrap64 (wrap64 ((numOf (s.data.toList.take i) : Int) * 10) + ((((s.data.toList[i]).toNat : Int) - 48) % 256)) = (numOf (s.data.toList.take (i + 1)) : Int) := by
      rw [take_num _ _ hi, wr_id (x := (numOf (s.data.toList.take i) : Int) * 10) (by omega) (by omega), wr_id (by omega) (by omega)]
      omega
    rw [he, wr_id (by omega) (by omega)]
    exact ih
theorem l7Num_tot (s : ByteArray) : Tot (fun k => spec_l7Num.f k s) (fun r => ∀ n : Nat, n ≤ 9999 → s.data.toList = Lib.itoa (n : Int) → r = (n : Int)) := by
  have hsz := ba_size s
  have t1 : Tot (fun k => spec_l7Num.j0 k s true) (fun r => True) := Tot.succ (by simp only [spec_l7Num.j0]; exact Tot.pos trivial (Tot.ret trivial))
  unfold spec_l7Num.f
  refine Tot.ite (fun h0 => Tot.mono t1 (fun r _ n hn e => ?_)) (fun h0 => ?_)
  · have := (itoa_le4 n hn).1
    rw [← e] at this
    omega
  · by_cases h4 : (s.size : Int) > 4
    · rw [show decide ((s.size : Int) > 4) = true from decide_eq_true h4]
      refine Tot.mono t1 (fun r _ n hn e => ?_)
      have := (itoa_le4 n hn).2
      rw [← e] at this
      omega
    · rw [show decide ((s.size : Int) > 4) = false from decide_eq_false h4]
      refine Tot.succ ?_
      simp only [spec_l7Num.j0]
      refine Tot.neg (by decide) ?_
      exact Tot.mono (l7Num_loop s (by omega) s.data.toList.length 0 (by omega)) (fun r hr n _ e => hr n e)
end Go.Proofs.YtfafjpfigphchaaDoor.X
namespace Go.Proofs.YtfafjpfigphchaaDoor.X
open Go.RowKit Go.Proofs.YtfafjpfigphchaaDoorW.PrintWords Go.Proofs.YtfafjpfigphchaaDoor.Pl
set_option linter.unusedSimpArgs false
set_option linter.unusedVariables false
abbrev OpR := Int × Int × Int × Int × Int × Bool
/-- What is read of a text is what has it. -/
def Said (s : ByteArray) (r : OpR) : Prop := ∃ o a b c d : Int, opOkB o a b c d = true ∧ opTextF o a b c d = s ∧ r = (o, a, b, c, d, true)
theorem opTextF_no {o a b c d : Int} (h : opOkB o a b c d = false) : opTextF o a b c d = ⟨#[]⟩ := by
  unfold opTextF; rw [if_neg (by rw [h]; decide)]
theorem opTextF_ne {o a b c d : Int} (h : opOkB o a b c d = true) : (opTextF o a b c d).data.toList ≠ [] := by
  obtain ⟨k, rfl, k1, k9, hn, _⟩ := opOk_rest h
  rw [opTextF_list h, Int.toNat_natCast]
  have hkk : k = 1 ∨ k = 2 ∨ k = 3 ∨ k = 4 ∨ k = 5 ∨ k = 6 ∨ k = 7 ∨ k = 8 := by omega
  rcases hkk with rfl | rfl | rfl | rfl | rfl | rfl | rfl | rfl <;> simp [opL, formW, formsL]
theorem implOk_tot (kd a b c d : Int) : Tot (fun k => impl_OpOk.f k kd a b c d) (fun t => t = opOkB kd a b c d) :=
  ⟨_, ⟨1, fun k hk => by obtain ⟨j, rfl⟩ : ∃ j, k = j + 1 := ⟨k - 1, by omega⟩; exact impl_OpOk_some j kd a b c d⟩, rfl⟩
theorem opEnd_tot (s : ByteArray) (kd a b c d : Int) : Tot (fun k => opEnd k s kd a b c d) (fun r => (opOkB kd a b c d = true ∧ opTextF kd a b c d = s ∧ r = (kd, a, b, c, d, true)) ∨ (¬ (opOkB kd a b c d = true ∧ opTextF kd a b c d = s) ∧ r = zR)) := by
  unfold opEnd
  refine Tot.bind (implOk_tot kd a b c d) ?_
  rintro _ rfl
  cases h : opOkB kd a b c d with
  | false => exact Tot.neg (by decide) (Tot.ret (.inr ⟨fun hh => absurd hh.1 (by decide), rfl⟩))
  | true =>
    refine Tot.pos rfl ?_
    refine Tot.bind (impl_OpText_tot _ _ _ _ _) ?_
    rintro _ rfl
    refine Tot.ite (fun he => Tot.ret (.inl ⟨rfl, toList_ba.1 he, rfl⟩)) (fun he => Tot.ret (.inr ⟨fun hh => he (toList_ba.2 hh.2), rfl⟩))
theorem scan_tot : ∀ (ps : List ByteArray) (fl : Bool), Tot (fun k => scanF k ps fl) (fun r => r.1.length = ps.length)
  | [], fl => by simp only [scanF]; exact Tot.ret rfl
  | p :: ps, fl => by
    simp only [scanF]
    refine Tot.bind (numRead_tot p) ?_
    intro r _
    refine Tot.bind (scan_tot ps (fl || !r.2)) ?_
    intro x hx
    exact Tot.ret (by simp [hx])
theorem scan_nums : ∀ ns : List Int, (∀ n ∈ ns, 0 ≤ n ∧ n ≤ 9999) → Tot (fun k => scanF k ((ns.map Lib.itoa).map baOf) false) (fun r => r = (ns, false))
  | [], _ => by simp only [List.map_nil, scanF]; exact Tot.ret rfl
  | n :: ns, h => by
    obtain ⟨h0, h1⟩ := h n (List.mem_cons_self ..)
    obtain ⟨m, rfl⟩ := Int.eq_ofNat_of_zero_le h0
    simp only [List.map_cons, scanF]
    refine Tot.bind (numRead_tot _) ?_
    intro r hr
    obtain rfl := hr m (by omega) rfl
    refine Tot.bind (scan_nums ns (fun x hx => h x (List.mem_cons_of_mem _ hx))) ?_
    rintro _ rfl
    exact Tot.ret rfl
theorem kind_word : ∀ k : Fin 9, 1 ≤ k.val → kindGo (formW k.val) 8 1 = ((k.val : Int), true) := by decide +kernel
theorem cut_len (s : ByteArray) : (Lib.cut s.data.toList [46]).2.1.length ≤ s.size := by
  rw [ba_size]
  rcases split_at (c := (46 : UInt8)) s.data.toList with h | ⟨a, b, e, h⟩
  · rw [cut_none h]; simp
  · rw [e, cut_app h]
    simp only [List.length_append, List.length_cons]
    omega
theorem implRead_sound (s : ByteArray) (hs : s.size ≤ 1048576) : Tot (fun k => impl_OpRead.f k s) (fun r => Said s r ∨ r = zR) := by
  have fin : ∀ kd a b c d : Int, Tot (fun k => opEnd k s kd a b c d) (fun r => Said s r ∨ r = zR) := fun kd a b c d => Tot.mono (opEnd_tot s kd a b c d) (fun r h => h.elim (fun h => .inl ⟨kd, a, b, c, d, h⟩) (fun h => .inr h.2))
  unfold impl_OpRead.f
  refine Tot.pos hs (Tot.ite (fun _ => Tot.ite (fun _ => Tot.pos ?_ ?_) (fun _ => fin _ _ _ _ _)) (fun _ => Tot.ret (.inr rfl)))
  · rw [List.size_toArray]; have := cut_len s; omega
  · refine Tot.bind (scan_tot _ _) ?_
    intro x _
    exact Tot.ite (fun _ => Tot.ret (.inr rfl)) (fun _ => Tot.ite (fun _ => Tot.ret (.inr rfl)) (fun _ => fin _ _ _ _ _))
/-- The numbers of an operation, and what its text looks like. -/
theorem op_form {o a b c d : Int} (h : opOkB o a b c d = true) : ∃ k : Nat, o = k ∧ 1 ≤ k ∧ k < 9 ∧ ∃ ns : List Int, (∀ n ∈ ns, 0 ≤ n ∧ n ≤ 255) ∧ ns.length ≤ 4 ∧ [a, b, c, d] = pad4 ns ∧ (opTextF o a b c d).data.toList = opL (formW k).data.toList ns := by
  obtain ⟨k, rfl, k1, k9, hn, hr⟩ := opOk_rest h
  refine ⟨k, rfl, k1, k9, [a, b, c, d].take (formN k), fun n hm => hn n (List.mem_of_mem_take hm), by simp; omega, ?_, opTextF_list h⟩
  have h4 := formN_le k k9
  have hl : ([a, b, c, d].take (formN k)).length = formN k := by rw [List.length_take]; simp; omega
  unfold pad4
  rw [hl]
  exact hr
theorem pad4_get {a b c d : Int} {ns : List Int} (h : [a, b, c, d] = pad4 ns) : (pad4 ns).getD 0 0 = a ∧ (pad4 ns).getD 1 0 = b ∧ (pad4 ns).getD 2 0 = c ∧ (pad4 ns).getD 3 0 = d := by
  rw [← h]
  exact ⟨rfl, rfl, rfl, rfl⟩
theorem end_ok {s : ByteArray} {o a b c d : Int} (h : opOkB o a b c d = true) (e : opTextF o a b c d = s) : Tot (fun k => opEnd k s o a b c d) (fun r => r = (o, a, b, c, d, true)) :=
  Tot.mono (opEnd_tot s o a b c d) (fun r h2 => h2.elim (fun x => x.2.2) (fun x => absurd ⟨h, e⟩ x.1))
theorem implRead_complete (s : ByteArray) (hs : s.size ≤ 1048576) {o a b c d : Int} (h : opOkB o a b c d = true) (e : opTextF o a b c d = s) : Tot (fun k => impl_OpRead.f k s) (fun r => r = (o, a, b, c, d, true)) := by
  obtain ⟨k, rfl, k1, k9, ns, hns, hl, hp, ht⟩ := op_form h
  rw [e] at ht
  have hw := formW_no (c := 46) (by decide) k k9
  have hkd := kind_word ⟨k, k9⟩ k1
  dsimp only at hkd
  have hrs := cut_len s
  unfold impl_OpRead.f
  refine Tot.pos hs ?_
  cases ns with
  | nil =>
    have hc : Lib.cut s.data.toList [46] = ((formW k).data.toList, [], false) := by
      rw [ht]
      have : opL (formW k).data.toList [] = (formW k).data.toList := by simp [opL]
      rw [this]
      exact cut_none hw
    rw [hc]
    dsimp only
    rw [show (⟨(formW k).data.toList.toArray⟩ : ByteArray) = formW k from baOf_self _, hkd]
    refine Tot.pos rfl (Tot.neg (by decide) ?_)
    have e4 := pad4_get hp
    obtain ⟨rfl, rfl, rfl, rfl⟩ : a = 0 ∧ b = 0 ∧ c = 0 ∧ d = 0 := ⟨e4.1.symm, e4.2.1.symm, e4.2.2.1.symm, e4.2.2.2.symm⟩
    exact end_ok h e
  | cons n ms =>
    have hc : Lib.cut s.data.toList [46] = ((formW k).data.toList, Lib.itoa n ++ ms.flatMap (fun n => 46 :: Lib.itoa n), true) := by
      rw [ht]
      have : opL (formW k).data.toList (n :: ms) = (formW k).data.toList ++ 46 :: (Lib.itoa n ++ ms.flatMap (fun n => 46 :: Lib.itoa n)) := by simp [opL]
      rw [this]
      exact cut_app hw
    have hpr : parts 46 (Lib.itoa n ++ ms.flatMap (fun n => 46 :: Lib.itoa n)) = (n :: ms).map Lib.itoa := by
      obtain ⟨m, rfl⟩ := Int.eq_ofNat_of_zero_le (hns n (List.mem_cons_self ..)).1
      exact parts_opL (Lib.itoa (m : Int)) (itoa_no (by decide) m) ms (fun x hx => (hns x (List.mem_cons_of_mem _ hx)).1)
    rw [hc] at hrs ⊢
    dsimp only at hrs ⊢
    rw [show (⟨(formW k).data.toList.toArray⟩ : ByteArray) = formW k from baOf_self _, hkd]
    refine Tot.pos rfl (Tot.pos rfl (Tot.pos (by rw [List.size_toArray]; omega) ?_))
    rw [partsB_parts]
    show Tot (fun k_1 => (scanF k_1 ((parts 46 (Lib.itoa n ++ ms.flatMap (fun n => 46 :: Lib.itoa n))).map baOf) false).bind _) _
    rw [hpr]
    refine Tot.bind (scan_nums (n :: ms) (fun x hx => by have := hns x hx; omega)) ?_
    rintro _ rfl
    refine Tot.neg (fun hh => Bool.false_ne_true hh) (Tot.neg (by dsimp only; omega) ?_)
    dsimp only
    obtain ⟨g0, g1, g2, g3⟩ := pad4_get hp
    rw [g0, g1, g2, g3]
    exact end_ok h e
theorem implRead_tot (s : ByteArray) (hs : s.size ≤ 1048576) : Tot (fun k => impl_OpRead.f k s) (fun r => Said s r ∨ ((∀ r, ¬ Said s r) ∧ r = zR)) := by
  by_cases hx : ∃ r, Said s r
  · obtain ⟨_, o, a, b, c, d, h, e, rfl⟩ := hx
    exact Tot.mono (implRead_complete s hs h e) (fun r hr => .inl ⟨o, a, b, c, d, h, e, hr⟩)
  · exact Tot.mono (implRead_sound s hs) (fun r hr => hr.elim .inl (fun hz => .inr ⟨fun r h => hx ⟨r, h⟩, hz⟩))
/-! ### The reference -/
theorem specL1_tot (s : ByteArray) (a b c d : Int) : ∀ e i : Nat, i + e = 9 → 1 ≤ i → Tot (fun k => spec_OpRead.l1 k s [a, b, c, d] i) (fun r => (∃ o : Nat, i ≤ o ∧ opOkB o a b c d = true ∧ opTextF o a b c d = s ∧ r = ((o : Int), a, b, c, d, true)) ∨ ((∀ o : Nat, i ≤ o → o ≤ 8 → ¬ (opOkB o a b c d = true ∧ opTextF o a b c d = s)) ∧ r = zR))
  | 0, i, h, h1 => by
    refine Tot.succ ?_
    simp only [spec_OpRead.l1]
    exact Tot.neg (by omega) (Tot.ret (.inr ⟨fun o h1 h2 => absurd h1 (by omega), rfl⟩))
  | e + 1, i, h, h1 => by
    have ih := specL1_tot s a b c d e (i + 1) (by omega) (by omega)
    have next : ¬ (opOkB (i : Int) a b c d = true ∧ opTextF (i : Int) a b c d = s) → Tot (fun k => spec_OpRead.l1 k s [a, b, c, d] (wrap64 ((i : Int) + 1))) (fun r => (∃ o : Nat, i ≤ o ∧ opOkB o a b c d = true ∧ opTextF o a b c d = s ∧ r = ((o : Int), a, b, c, d, true)) ∨ ((∀ o : Nat, i ≤ o → o ≤ 8 → ¬ (opOkB o a b c d = true ∧ opTextF o a b c d = s)) ∧ r = zR)) := by
      intro hno
      rw [wr_id (by omega) (by omega)]
      refine Tot.mono ih (fun r hr => hr.elim (fun ⟨o, h1, h2⟩ => .inl ⟨o, by omega, h2⟩) (fun ⟨h1, h2⟩ => .inr ⟨fun o ho h8 => ?_, h2⟩))
      by_cases hoi : o = i
      · subst hoi; exact hno
      · exact h1 o (by omega) h8
    refine Tot.succ ?_
    simp only [spec_OpRead.l1]
    refine Tot.pos (by omega) (Tot.pos (by simp) (Tot.pos (by simp) (Tot.pos (by simp) (Tot.pos (by simp) ?_))))
    rw [show rd [a, b, c, d] 0 = a from rfl, show rd [a, b, c, d] 1 = b from rfl, show rd [a, b, c, d] 2 = c from rfl, show rd [a, b, c, d] 3 = d from rfl]
    refine Tot.bind (spec_OpText_tot _ _ _ _ _) ?_
    rintro _ rfl
    refine Tot.ite (fun he => ?_) (fun he => next (fun hh => he (toList_ba.2 hh.2)))
    have he2 := toList_ba.1 he
    refine Tot.ite (fun h0 => next (fun hh => ?_)) (fun h0 => Tot.ret (.inl ⟨i, Nat.le_refl _, ?_, he2, rfl⟩))
    · rw [Lib.toList_data] at h0
      exact opTextF_ne hh.1 (by rw [hh.2, h0])
    · cases hk : opOkB (i : Int) a b c d with
      | true => rfl
      | false =>
        rw [opTextF_no hk] at he2
        rw [← he2] at h0
        exact absurd (by rw [Lib.toList_data]) h0
theorem specJ1_tot (s : ByteArray) (a b c d : Int) : Tot (fun k => spec_OpRead.j1 k s [a, b, c, d]) (fun r => (∃ o : Nat, 1 ≤ o ∧ opOkB o a b c d = true ∧ opTextF o a b c d = s ∧ r = ((o : Int), a, b, c, d, true)) ∨ ((∀ o : Nat, 1 ≤ o → o ≤ 8 → ¬ (opOkB o a b c d = true ∧ opTextF o a b c d = s)) ∧ r = zR)) := by
  refine Tot.succ ?_
  simp only [spec_OpRead.j1]
  exact specL1_tot s a b c d 8 1 (by omega) (by omega)
theorem four {l : List Int} (h : l.length = 4) : ∃ a b c d, l = [a, b, c, d] := by
  match l, h with
  | [a, b, c, d], _ => exact ⟨a, b, c, d, rfl⟩
theorem specL0_sound (s : ByteArray) (ps : List ByteArray) (hps : ps.length ≤ 1048577) : ∀ e i : Nat, i + e = 5 → 1 ≤ i → ∀ all : List Int, all.length = 4 → Tot (fun k => spec_OpRead.l0 k s ps all i) (fun r => Said s r ∨ r = zR)
  | e, i, h, h1, all, h4 => by
    have fin : Tot (fun k => spec_OpRead.j1 k s all) (fun r => Said s r ∨ r = zR) := by
      obtain ⟨a, b, c, d, rfl⟩ := four h4
      exact Tot.mono (specJ1_tot s a b c d) (fun r hr => hr.elim (fun ⟨o, _, h2⟩ => .inl ⟨o, a, b, c, d, h2⟩) (fun hz => .inr hz.2))
    refine Tot.succ ?_
    simp only [spec_OpRead.l0]
    refine Tot.ite (fun hi => Tot.ite (fun h5 => ?_) (fun h5 => fin)) (fun hi => fin)
    obtain ⟨e, rfl⟩ : ∃ e', e = e' + 1 := ⟨e - 1, by omega⟩
    refine Tot.pos (by omega) ?_
    refine Tot.bind (l7Num_tot _) ?_
    intro v _
    rw [wr_id (x := (i : Int) - 1) (by omega) (by omega), wr_id (by omega) (by omega)]
    exact Tot.pos (by omega) (Tot.pos (by rw [h4]; omega) (specL0_sound s ps hps e (i + 1) (by omega) (by omega) _ (by rw [List.length_set]; exact h4)))
theorem pad_set (ns : List Int) (j : Nat) (h : j < ns.length) (h4 : ns.length ≤ 4) : ((ns.take j ++ List.replicate (4 - j) 0).set j (ns.getD j 0)) = ns.take (j + 1) ++ List.replicate (4 - (j + 1)) 0 := by
  have hl : (ns.take j).length = j := by rw [List.length_take]; omega
  rw [List.set_append_right _ _ (by omega), hl, Nat.sub_self, show 4 - j = (4 - (j + 1)) + 1 by omega, List.replicate_succ, List.set_cons_zero, List.take_add_one, List.getElem?_eq_getElem h, List.append_assoc]
  simp [List.getD_eq_getElem?_getD, h]
theorem specL0_nums (s W : ByteArray) (ns : List Int) (hns : ∀ n ∈ ns, 0 ≤ n ∧ n ≤ 255) (h4 : ns.length ≤ 4) {P : OpR → Prop} (fin : Tot (fun k => spec_OpRead.j1 k s (pad4 ns)) P) : ∀ e j : Nat, j + e = ns.length → Tot (fun k => spec_OpRead.l0 k s (W :: (ns.map Lib.itoa).map baOf) (ns.take j ++ List.replicate (4 - j) 0) ((j : Int) + 1)) P
  | 0, j, h => by
    refine Tot.succ ?_
    simp only [spec_OpRead.l0]
    refine Tot.neg (by simp; omega) ?_
    rw [List.take_of_length_le (by omega), show j = ns.length by omega]
    exact fin
  | e + 1, j, h => by
    have hj : j < ns.length := by omega
    obtain ⟨h0, h255⟩ := hns _ (List.getElem_mem hj)
    obtain ⟨m, hm⟩ := Int.eq_ofNat_of_zero_le h0
    have ih := specL0_nums s W ns hns h4 fin e (j + 1) (by omega)
    have hr : rdOf ByteArray.empty (W :: (ns.map Lib.itoa).map baOf) ((j : Int) + 1) = baOf (Lib.itoa (m : Int)) := by
      rw [← hm]
      have : ((j : Int) + 1).toNat = j + 1 := by omega
      unfold rdOf
      rw [this]
      simp [List.getD_eq_getElem?_getD, hj]
    refine Tot.succ ?_
    simp only [spec_OpRead.l0]
    refine Tot.pos (by simp; omega) (Tot.pos (by omega) (Tot.pos (by omega) ?_))
    rw [hr]
    refine Tot.bind (l7Num_tot _) ?_
    intro v hv
    obtain rfl := hv m (by omega) rfl
    rw [wr_id (x := (j : Int) + 1 - 1) (by omega) (by omega), wr_id (by omega) (by omega)]
    refine Tot.pos (by omega) (Tot.pos ?_ ?_)
    · rw [List.length_append, List.length_take, List.length_replicate]; omega
    · have hs := pad_set ns j hj h4
      have hg : ns.getD j 0 = (m : Int) := by rw [← hm]; simp [List.getD_eq_getElem?_getD, hj]
      rw [hg] at hs
      rw [show ((j : Int) + 1 - 1).toNat = j by omega, hs]
      exact ih
theorem specRead_sound (s : ByteArray) (hs : s.size ≤ 1048576) : Tot (fun k => spec_OpRead.f k s) (fun r => Said s r ∨ r = zR) := by
  unfold spec_OpRead.f
  refine Tot.bind (l7Cut_tot s 46 hs) ?_
  rintro _ rfl
  have hl := (parts_len (c := 46) s.data.toList).1
  rw [← ba_size] at hl
  exact specL0_sound s _ (by rw [List.length_map]; omega) 4 1 (by omega) (by omega) _ rfl
theorem specRead_complete (s : ByteArray) (hs : s.size ≤ 1048576) {o a b c d : Int} (h : opOkB o a b c d = true) (e : opTextF o a b c d = s) : Tot (fun k => spec_OpRead.f k s) (fun r => r = (o, a, b, c, d, true)) := by
  obtain ⟨k, rfl, k1, k9, ns, hns, hl, hp, ht⟩ := op_form h
  rw [e] at ht
  have hpr := parts_opL _ (formW_no (c := 46) (by decide) k k9) ns (fun x hx => (hns x hx).1)
  unfold spec_OpRead.f
  refine Tot.bind (l7Cut_tot s 46 hs) ?_
  rintro _ rfl
  rw [ht, hpr]
  refine specL0_nums s _ ns hns hl ?_ ns.length 0 (by omega)
  rw [← hp]
  refine Tot.mono (specJ1_tot s a b c d) (fun r hr => ?_)
  rcases hr with ⟨o', _, h2, h3, h4⟩ | ⟨h1, _⟩
  · obtain ⟨e0, _⟩ := opTextF_inj h h2 (e.trans h3.symm)
    rw [h4, e0]
  · exact absurd ⟨h, e⟩ (h1 k k1 (by omega))
theorem specRead_tot (s : ByteArray) (hs : s.size ≤ 1048576) : Tot (fun k => spec_OpRead.f k s) (fun r => Said s r ∨ ((∀ r, ¬ Said s r) ∧ r = zR)) := by
  by_cases hx : ∃ r, Said s r
  · obtain ⟨_, o, a, b, c, d, h, e, rfl⟩ := hx
    exact Tot.mono (specRead_complete s hs h e) (fun r hr => .inl ⟨o, a, b, c, d, h, e, hr⟩)
  · exact Tot.mono (specRead_sound s hs) (fun r hr => hr.elim .inl (fun hz => .inr ⟨fun r h => hx ⟨r, h⟩, hz⟩))
end Go.Proofs.YtfafjpfigphchaaDoor.X
namespace Go.Proofs.YtfafjpfigphchaaDoor.X
open Go.RowKit Go.Proofs.YtfafjpfigphchaaDoorW.PrintWords Go.Proofs.YtfafjpfigphchaaDoor.Pl
set_option linter.unusedSimpArgs false
set_option linter.unusedVariables false
/-- The signs of an operation's text. -/
def opSign (c : UInt8) : Prop := (97 ≤ c.toNat ∧ c.toNat ≤ 122) ∨ c.toNat = 46 ∨ (48 ≤ c.toNat ∧ c.toNat ≤ 57)
theorem opL_sign {W : List UInt8} {ns : List Int} (hW : ∀ c ∈ W, 97 ≤ c.toNat ∧ c.toNat ≤ 122) (hn : ∀ n ∈ ns, 0 ≤ n) : ∀ c ∈ opL W ns, opSign c := by
  intro c hc
  rcases List.mem_append.1 hc with h | h
  · exact .inl (hW c h)
  · obtain ⟨n, h1, h2⟩ := List.mem_flatMap.1 h
    obtain ⟨m, rfl⟩ := Int.eq_ofNat_of_zero_le (hn n h1)
    rcases List.mem_cons.1 h2 with rfl | h3
    · exact .inr (.inl rfl)
    · exact .inr (.inr (itoa_dig m c h3))
theorem opT_sign {x : Op} (h : okB x = true) : ∀ c ∈ (opT x).data.toList, opSign c := by
  obtain ⟨k, hk, k1, k9, hn, _⟩ := opOk_rest h
  unfold opT
  rw [opTextF_list h, hk]
  exact opL_sign (formW_sign k k9) (fun n h => (hn n (List.mem_of_mem_take h)).1)
theorem opT_no {x : Op} (h : okB x = true) {c : UInt8} (hc : ¬ opSign c) : c ∉ (opT x).data.toList := fun hm => hc (opT_sign h c hm)
theorem opT_inj {x y : Op} (h : okB x = true) (h' : okB y = true) (e : opT x = opT y) : x = y := by
  obtain ⟨a, b, c, d, f⟩ := x
  obtain ⟨a', b', c', d', f'⟩ := y
  obtain ⟨rfl, rfl, rfl, rfl, rfl⟩ := opTextF_inj h h' e
  rfl
theorem map_opT_inj : ∀ {a b : List Op}, (∀ x ∈ a, okB x = true) → (∀ x ∈ b, okB x = true) → a.map (fun x => (opT x).data.toList) = b.map (fun x => (opT x).data.toList) → a = b
  | [], [], _, _, _ => rfl
  | [], _ :: _, _, _, h => by cases h
  | _ :: _, [], _, _, h => by cases h
  | x :: a, y :: b, hx, hy, h => by
    simp only [List.map_cons, List.cons.injEq] at h
    rw [opT_inj (hx x (List.mem_cons_self ..)) (hy y (List.mem_cons_self ..)) (ba_ext h.1), map_opT_inj (fun z hz => hx z (List.mem_cons_of_mem _ hz)) (fun z hz => hy z (List.mem_cons_of_mem _ hz)) h.2]
theorem allOk_mem {l : List Op} (h : allOkB l = true) : ∀ x ∈ l, okB x = true := by
  intro x hx
  simp only [allOkB, Bool.and_eq_true, List.all_eq_true, List.mem_range] at h
  obtain ⟨i, hi, rfl⟩ := List.getElem_of_mem hx
  have := h.2 i hi
  unfold opAt rd_T23 at this
  rw [Int.toNat_natCast, List.getD_eq_getElem?_getD, List.getElem?_eq_getElem hi] at this
  exact this
theorem join_list (x : Op) (r : List Op) : (joinT ((x :: r).map opT)).data.toList = (opT x).data.toList ++ r.flatMap fun y => 44 :: (opT y).data.toList := by
  rw [joinT, ba_mk, List.map_cons, List.map_cons, Lib.join_cons]
  congr 1
  simp only [Lib.joinTail, List.map_map]
  rw [List.flatMap_def]
  rfl
theorem parts_join : ∀ (r : List Op) (A : List UInt8), (44 : UInt8) ∉ A → (∀ x ∈ r, okB x = true) → parts 44 (A ++ r.flatMap fun y => 44 :: (opT y).data.toList) = A :: r.map fun y => (opT y).data.toList
  | [], A, hA, _ => by rw [List.flatMap_nil, List.append_nil, parts_none hA]; rfl
  | x :: r, A, hA, h => by
    rw [List.flatMap_cons, List.cons_append, parts_app hA, parts_join r _ (opT_no (h x (List.mem_cons_self ..)) (by unfold opSign; decide)) (fun z hz => h z (List.mem_cons_of_mem _ hz))]
    rfl
/-- All that is done, sign by sign. -/
def opsL (l : List Op) : List UInt8 := (opsF l).data.toList
theorem opsL_parts {l : List Op} (h : ∀ x ∈ l, okB x = true) : parts 44 (opsL l) = if l = [] then [[45]] else l.map fun y => (opT y).data.toList := by
  unfold opsL opsF
  cases l with
  | nil => rfl
  | cons x r =>
    rw [if_neg (by simp), if_neg (by simp), join_list, parts_join r _ (opT_no (h x (List.mem_cons_self ..)) (by unfold opSign; decide)) (fun z hz => h z (List.mem_cons_of_mem _ hz))]
    rfl
theorem opsL_sign {l : List Op} (h : ∀ x ∈ l, okB x = true) : ∀ c ∈ opsL l, opSign c ∨ c.toNat = 44 ∨ c.toNat = 45 := by
  unfold opsL opsF
  cases l with
  | nil =>
    intro c hc
    obtain rfl := List.mem_singleton.1 (show c ∈ [(45 : UInt8)] from hc)
    exact .inr (.inr rfl)
  | cons x r =>
    intro c hc
    rw [if_neg (by simp), join_list] at hc
    rcases List.mem_append.1 hc with h1 | h1
    · exact .inl (opT_sign (h x (List.mem_cons_self ..)) c h1)
    · obtain ⟨y, hy, h2⟩ := List.mem_flatMap.1 h1
      rcases List.mem_cons.1 h2 with rfl | h3
      · exact .inr (.inl rfl)
      · exact .inl (opT_sign (h y (List.mem_cons_of_mem _ hy)) c h3)
theorem opsL_inj {a b : List Op} (ha : ∀ x ∈ a, okB x = true) (hb : ∀ x ∈ b, okB x = true) (e : opsL a = opsL b) : a = b := by
  have p := congrArg (parts 44) e
  rw [opsL_parts ha, opsL_parts hb] at p
  have no : ∀ {x : Op}, okB x = true → ([45] : List UInt8) ≠ (opT x).data.toList := fun h e => opT_no h (c := 45) (by unfold opSign; decide) (by rw [← e]; exact List.mem_singleton.2 rfl)
  cases a with
  | nil =>
    cases b with
    | nil => rfl
    | cons y b =>
      rw [if_pos rfl, if_neg (by simp)] at p
      simp only [List.map_cons, List.cons.injEq] at p
      exact absurd p.1 (no (hb y (List.mem_cons_self ..)))
  | cons x a =>
    cases b with
    | nil =>
      rw [if_pos rfl, if_neg (by simp)] at p
      simp only [List.map_cons, List.cons.injEq] at p
      exact absurd p.1.symm (no (ha x (List.mem_cons_self ..)))
    | cons y b =>
      rw [if_neg (by simp), if_neg (by simp)] at p
      exact map_opT_inj ha hb p
theorem askI_list (ops path : ByteArray) (till : Int) : (askI ops path till).data.toList = 47 :: (ops.data.toList ++ 47 :: (path.data.toList ++ 63 :: (101 :: 61 :: Lib.itoa till))) := by
  unfold askI
  simp only [ba_app, List.append_assoc]
  rfl
theorem path_sign {s : ByteArray} (h : nameB s = true) : ∀ c ∈ s.data.toList, (97 ≤ c.toNat ∧ c.toNat ≤ 122) ∨ (48 ≤ c.toNat ∧ c.toNat ≤ 57) := by
  intro c hc
  simp only [nameB, Bool.and_eq_true, List.all_eq_true, List.mem_range] at h
  obtain ⟨i, hi, rfl⟩ := List.getElem_of_mem hc
  have hs : i < s.size := by rw [ba_size]; exact hi
  have := h.2 i hs
  unfold signB bt at this
  rw [Int.toNat_natCast, dif_pos hs] at this
  have e : s[i] = s.data.toList[i] := by
    rw [Array.getElem_toList]
    rfl
  rw [e] at this
  simp only [Bool.or_eq_true, decide_eq_true_eq] at this
  omega
theorem ask_parts {l : List Op} {p : ByteArray} {n : Nat} (hl : ∀ x ∈ l, okB x = true) (hp : nameB p = true) : parts 47 (askI (opsF l) p n).data.toList = [[], opsL l, p.data.toList ++ 63 :: (101 :: 61 :: Lib.itoa (n : Int))] ∧ parts 63 (p.data.toList ++ 63 :: (101 :: 61 :: Lib.itoa (n : Int))) = [p.data.toList, 101 :: 61 :: Lib.itoa (n : Int)] := by
  have h1 : (47 : UInt8) ∉ opsL l := fun h => by
    rcases opsL_sign hl _ h with h | h | h
    · revert h; unfold opSign; decide
    · revert h; decide
    · revert h; decide
  have h2 : ∀ c : UInt8, c = 47 ∨ c = 63 → c ∉ p.data.toList := fun c hc h => by
    have := path_sign hp c h
    rcases hc with rfl | rfl <;> revert this <;> decide
  have h3 : ∀ c : UInt8, c = 47 ∨ c = 63 → c ∉ Lib.itoa (n : Int) := fun c hc => itoa_no (by rcases hc with rfl | rfl <;> decide) n
  refine ⟨?_, ?_⟩
  · rw [askI_list, parts, if_pos rfl]
    show [] :: parts 47 (opsL l ++ 47 :: _) = _
    rw [parts_app h1, parts_none]
    intro h
    rcases List.mem_append.1 h with h | h
    · exact h2 47 (.inl rfl) h
    · simp only [List.mem_cons] at h
      rcases h with h | h | h | h
      · revert h; decide
      · revert h; decide
      · revert h; decide
      · exact h3 47 (.inl rfl) h
  · rw [parts_app (h2 63 (.inr rfl)), parts_none]
    intro h
    simp only [List.mem_cons] at h
    rcases h with h | h | h
    · revert h; decide
    · revert h; decide
    · exact h3 63 (.inr rfl) h
theorem askB_all {l : List Op} {p : ByteArray} {t : Int} (h : askB l p t = true) : (∀ x ∈ l, okB x = true) ∧ nameB p = true := by
  simp only [askB, Bool.and_eq_true] at h
  exact ⟨allOk_mem h.1, h.2.1⟩
theorem askF_inj {l l' : List Op} {p p' : ByteArray} {t t' : Int} (h : askB l p t = true) (h' : askB l' p' t' = true) (e : askF l p t = askF l' p' t') : l = l' ∧ p = p' ∧ t = t' := by
  obtain ⟨_, _, t0, t1⟩ := askB_parts h
  obtain ⟨_, _, t0', t1'⟩ := askB_parts h'
  obtain ⟨a, b⟩ := askB_all h
  obtain ⟨a', b'⟩ := askB_all h'
  obtain ⟨n, rfl⟩ := Int.eq_ofNat_of_zero_le t0
  obtain ⟨n', rfl⟩ := Int.eq_ofNat_of_zero_le t0'
  unfold askF at e
  rw [if_pos h, if_pos h'] at e
  obtain ⟨q1, q2⟩ := ask_parts (n := n) a b
  obtain ⟨q1', q2'⟩ := ask_parts (n := n') a' b'
  rw [e, q1'] at q1
  simp only [List.cons.injEq, and_true, true_and] at q1
  rw [← q1.2, q2'] at q2
  simp only [List.cons.injEq, and_true, true_and] at q2
  exact ⟨opsL_inj a a' q1.1.symm, ba_ext q2.1.symm, by rw [itoa_inj q2.2]⟩
end Go.Proofs.YtfafjpfigphchaaDoor.X
namespace Go.Proofs.YtfafjpfigphchaaDoor.X
open Go.RowKit Go.Proofs.YtfafjpfigphchaaDoorW.PrintWords Go.Proofs.YtfafjpfigphchaaDoor.Pl
set_option linter.unusedSimpArgs false
set_option linter.unusedVariables false
def SaidA (s : ByteArray) (r : AskR) : Prop := ∃ (l : List Op) (p : ByteArray) (n : Int), askB l p n = true ∧ askF l p n = s ∧ r = (l, p, n, true)
/-! ### How long the texts are -/
theorem itoa_le3 (n : Nat) (h : n ≤ 255) : (Lib.itoa (n : Int)).length ≤ 3 := by
  rw [Lib.itoa_nonneg, Lib.decDigits_length]
  by_cases h1 : n < 10
  · rw [Lib.nDigits_small h1]; omega
  rw [Lib.nDigits_big h1]
  by_cases h2 : n / 10 < 10
  · rw [Lib.nDigits_small h2]; omega
  rw [Lib.nDigits_big h2, Lib.nDigits_small (by omega)]
  omega
theorem flat_le (ns : List Int) (h : ∀ n ∈ ns, 0 ≤ n ∧ n ≤ 255) : (ns.flatMap fun n => (46 : UInt8) :: Lib.itoa n).length ≤ 4 * ns.length := by
  induction ns with
  | nil => simp
  | cons n ns ih =>
    obtain ⟨h0, h1⟩ := h n (List.mem_cons_self ..)
    obtain ⟨m, rfl⟩ := Int.eq_ofNat_of_zero_le h0
    have := ih (fun x hx => h x (List.mem_cons_of_mem _ hx))
    have h3 := itoa_le3 m (by omega)
    rw [List.flatMap_cons, List.length_append, List.length_cons, List.length_cons]
    omega
theorem opT_21 {x : Op} (h : okB x = true) : (opT x).data.toList.length ≤ 21 := by
  obtain ⟨k, hk, k1, k9, ns, hns, hl, hp, ht⟩ := op_form h
  have e : (opT x).data.toList = opL (formW k).data.toList ns := ht
  have hw := formW_len k k9
  rw [ba_size] at hw
  rw [e, opL, List.length_append]
  have := flat_le ns hns
  omega
theorem ops_flat (r : List Op) (h : ∀ x ∈ r, okB x = true) : (r.flatMap fun y => (44 : UInt8) :: (opT y).data.toList).length ≤ 22 * r.length := by
  induction r with
  | nil => simp
  | cons x r ih =>
    have := ih (fun z hz => h z (List.mem_cons_of_mem _ hz))
    have h1 := opT_21 (h x (List.mem_cons_self ..))
    rw [List.flatMap_cons, List.length_append, List.length_cons, List.length_cons]
    omega
theorem opsL_len {l : List Op} (h : ∀ x ∈ l, okB x = true) (h5 : l.length ≤ 5) : (opsL l).length ≤ 110 := by
  unfold opsL opsF
  cases l with
  | nil => show ([45] : List UInt8).length ≤ 110; decide
  | cons x r =>
    rw [if_neg (by simp), join_list, List.length_append]
    have h1 := opT_21 (h x (List.mem_cons_self ..))
    have h2 := ops_flat r (fun z hz => h z (List.mem_cons_of_mem _ hz))
    simp only [List.length_cons] at h5
    omega
/-- What is asked, sign by sign. -/
theorem ask_form {l : List Op} {p : ByteArray} {n : Int} (h : askB l p n = true) : ∃ m : Nat, n = m ∧ m ≤ 9999 ∧ (∀ x ∈ l, okB x = true) ∧ nameB p = true ∧ l.length ≤ 5 ∧ (askF l p n).data.toList = 47 :: (opsL l ++ 47 :: (p.data.toList ++ 63 :: (101 :: 61 :: Lib.itoa (m : Int)))) ∧ (askF l p n).size ≤ 200 := by
  obtain ⟨h5, hp, t0, t1⟩ := askB_parts h
  obtain ⟨a, b⟩ := askB_all h
  obtain ⟨m, rfl⟩ := Int.eq_ofNat_of_zero_le t0
  have e : (askF l p (m : Int)).data.toList = 47 :: (opsL l ++ 47 :: (p.data.toList ++ 63 :: (101 :: 61 :: Lib.itoa (m : Int)))) := by
    unfold askF; rw [if_pos h, askI_list]; rfl
  refine ⟨m, rfl, by omega, a, b, h5, e, ?_⟩
  have h1 := opsL_len a h5
  have h2 := (itoa_le4 m (by omega)).2
  rw [ba_size] at hp
  rw [ba_size, e]
  simp only [List.length_cons, List.length_append]
  omega
theorem askF_no {l : List Op} {p : ByteArray} {n : Int} (h : askB l p n = false) : askF l p n = ⟨#[]⟩ := by
  unfold askF; rw [if_neg (by rw [h]; decide)]
/-! ### The program -/
theorem implAskOk_tot (l : List Op) (hl : l.length ≤ 4611686018427387904) (p : ByteArray) (n : Int) : Tot (fun k => impl_AskOk.f k l p n) (fun t => t = askB l p n) := Tot.of_ev (impl_AskOk_ev l hl p n)
theorem askEnd_tot (s : ByteArray) (l : List Op) (hl : l.length ≤ 4611686018427387904) (p : ByteArray) (n : Int) : Tot (fun k => askEnd k s l p n) (fun r => (askB l p n = true ∧ askF l p n = s ∧ r = (l, p, n, true)) ∨ (¬ (askB l p n = true ∧ askF l p n = s) ∧ r = zA)) := by
  unfold askEnd
  refine Tot.bind (implAskOk_tot l hl p n) ?_
  rintro _ rfl
  cases h : askB l p n with
  | false => exact Tot.neg (by decide) (Tot.ret (.inr ⟨fun hh => absurd hh.1 (by decide), rfl⟩))
  | true =>
    refine Tot.pos rfl ?_
    refine Tot.bind (impl_AskText_tot l hl p n) ?_
    rintro _ rfl
    exact Tot.ite (fun he => Tot.ret (.inl ⟨rfl, toList_ba.1 he, rfl⟩)) (fun he => Tot.ret (.inr ⟨fun hh => he (toList_ba.2 hh.2), rfl⟩))
theorem scanG_tot : ∀ (ps : List ByteArray) (fl : Bool), (∀ p ∈ ps, p.size ≤ 1048576) → Tot (fun k => scanG k ps fl) (fun r => r.1.length = ps.length)
  | [], fl, _ => by simp only [scanG]; exact Tot.ret rfl
  | p :: ps, fl, h => by
    simp only [scanG]
    refine Tot.bind (implRead_tot p (h p (List.mem_cons_self ..))) ?_
    intro r _
    refine Tot.bind (scanG_tot ps (fl || !r.2.2.2.2.2) (fun q hq => h q (List.mem_cons_of_mem _ hq))) ?_
    intro x hx
    exact Tot.ret (by simp [hx])
theorem scanG_ops : ∀ (l : List Op) (fl : Bool), (∀ x ∈ l, okB x = true) → Tot (fun k => scanG k ((l.map fun y => (opT y).data.toList).map baOf) fl) (fun r => r = (l, fl))
  | [], fl, _ => by simp only [List.map_nil, scanG]; exact Tot.ret rfl
  | x :: l, fl, h => by
    simp only [List.map_cons, scanG]
    have hx := h x (List.mem_cons_self ..)
    have hsz : (baOf (opT x).data.toList).size ≤ 1048576 := by rw [ba_size, baOf_list]; have := opT_21 hx; omega
    refine Tot.bind (implRead_complete (baOf (opT x).data.toList) hsz (o := x.f0) (a := x.f1) (b := x.f2) (c := x.f3) (d := x.f4) hx (baOf_self _).symm) ?_
    rintro _ rfl
    dsimp only
    rw [Bool.not_true, Bool.or_false]
    refine Tot.bind (scanG_ops l fl (fun z hz => h z (List.mem_cons_of_mem _ hz))) ?_
    rintro _ rfl
    exact Tot.ret rfl
theorem parts_mem {c : UInt8} : ∀ {l : List UInt8}, ∀ p ∈ parts c l, p.length ≤ l.length
  | [], p, h => by simp [parts] at h; simp [h]
  | x :: l, p, h => by
    rw [parts] at h
    split at h
    · rcases List.mem_cons.1 h with rfl | h
      · simp
      · have := parts_mem p h; simp only [List.length_cons]; omega
    · split at h
      · obtain rfl := List.mem_singleton.1 h; simp
      · rename_i hd tl e
        rcases List.mem_cons.1 h with rfl | h
        · have := parts_mem (c := c) (l := l) hd (by rw [e]; exact List.mem_cons_self ..)
          simp only [List.length_cons]; omega
        · have := parts_mem (c := c) (l := l) p (by rw [e]; exact List.mem_cons_of_mem _ h)
          simp only [List.length_cons]; omega
theorem cut_parts_len (l sep : List UInt8) : (Lib.cut l sep).1.length ≤ l.length ∧ (Lib.cut l sep).2.1.length ≤ l.length := by
  unfold Lib.cut
  split
  · simp only [List.length_take, List.length_drop]; omega
  · simp
theorem word_len (s p : ByteArray) : (wordF s p).1.size ≤ s.size := by
  rw [ba_size s]
  show (Lib.trimPrefix s.data.toList p.data.toList).toArray.size ≤ _
  rw [List.size_toArray]
  unfold Lib.trimPrefix
  split
  · rw [List.length_drop]; omega
  · exact Nat.le_refl _
theorem cutF_len (s p : ByteArray) : (cutF s p).1.size ≤ s.size ∧ (cutF s p).2.1.size ≤ s.size := by
  rw [ba_size s]
  have := cut_parts_len s.data.toList p.data.toList
  exact ⟨by show (Lib.cut s.data.toList p.data.toList).1.toArray.size ≤ _; rw [List.size_toArray]; exact this.1, by show (Lib.cut s.data.toList p.data.toList).2.1.toArray.size ≤ _; rw [List.size_toArray]; exact this.2⟩
theorem partsB_ok (s : ByteArray) (c : UInt8) (hs : s.size ≤ 1048576) : (∀ p ∈ partsB s ⟨#[c]⟩, p.size ≤ 1048576) ∧ (partsB s ⟨#[c]⟩).length ≤ 1048577 := by
  rw [partsB_parts]
  rw [ba_size] at hs
  refine ⟨fun p hp => ?_, ?_⟩
  · obtain ⟨q, hq, rfl⟩ := List.mem_map.1 hp
    have := parts_mem q hq
    rw [ba_size, baOf_list]
    omega
  · rw [List.length_map]
    have := (parts_len (c := c) s.data.toList).1
    omega
theorem askMid_sound (s ops r1 : ByteArray) (f1 : Bool) (ho : ops.size ≤ 1048576) : Tot (fun k => askMid k s ops r1 f1) (fun r => SaidA s r ∨ r = zA) := by
  have rest : ∀ (x : List Op × Bool), x.1.length ≤ 4611686018427387904 → Tot (fun k => (impl_numberRead.f k (cutF r1 ⟨#[63, 101, 61]⟩).2.1).bind fun y => if ((x.2 || !(cutF r1 ⟨#[63, 101, 61]⟩).2.2) || !y.2) = true then some zA else askEnd k s x.1 (cutF r1 ⟨#[63, 101, 61]⟩).1 y.1) (fun r => SaidA s r ∨ r = zA) := by
    intro x hx
    refine Tot.bind (numRead_tot _) ?_
    intro y _
    refine Tot.ite (fun _ => Tot.ret (.inr rfl)) (fun _ => ?_)
    exact Tot.mono (askEnd_tot s x.1 hx _ _) (fun r h => h.elim (fun h => .inl ⟨_, _, _, h⟩) (fun h => .inr h.2))
  unfold askMid
  refine Tot.bind (P := fun x => x.1.length ≤ 4611686018427387904) ?_ (fun x hx => rest x hx)
  refine Tot.ite (fun _ => Tot.ret (by simp)) (fun _ => ?_)
  have hp := partsB_ok ops 44 ho
  exact Tot.mono (scanG_tot _ f1 hp.1) (fun r hr => by rw [hr]; omega)
theorem implAsk_sound (s : ByteArray) : Tot (fun k => impl_AskRead.f k s) (fun r => SaidA s r ∨ r = zA) := by
  unfold impl_AskRead.f
  refine Tot.ite (fun _ => Tot.ret (.inr rfl)) (fun h2 => ?_)
  have w := word_len s ⟨#[47]⟩
  have c1 := cutF_len (wordF s ⟨#[47]⟩).1 ⟨#[47]⟩
  have c2 := cutF_len (cutF (wordF s ⟨#[47]⟩).1 ⟨#[47]⟩).2.1 ⟨#[63, 101, 61]⟩
  exact Tot.pos ⟨by omega, by omega, by omega, by omega⟩ (askMid_sound s _ _ _ (by omega))
theorem index_sep {a b t : List UInt8} {c : UInt8} (h : c ∉ a) : Lib.index (a ++ (c :: (t ++ b))) (c :: t) = (a.length : Int) := by
  induction a with
  | nil => simp [Lib.index]
  | cons x a ih =>
    simp only [List.mem_cons, not_or] at h
    have ih := ih h.2
    have hf : (c == x) = false := beq_eq_false_iff_ne.2 h.1
    rw [List.cons_append, Lib.index, if_neg (by simp [List.isPrefixOf, hf]), ih, if_neg (fun e => by have := beq_iff_eq.1 e; omega), List.length_cons]
    omega
theorem cut_sep {a b t : List UInt8} {c : UInt8} (h : c ∉ a) : Lib.cut (a ++ (c :: (t ++ b))) (c :: t) = (a, b, true) := by
  unfold Lib.cut
  rw [index_sep h, if_pos (by omega), Int.toNat_natCast]
  simp
theorem opsL_dash {l : List Op} (h : ∀ x ∈ l, okB x = true) : opsL l = [45] ↔ l = [] := by
  refine ⟨fun e => ?_, fun e => by subst e; rfl⟩
  cases l with
  | nil => rfl
  | cons x r =>
    have p := opsL_parts h
    rw [e, if_neg (by simp)] at p
    simp only [List.map_cons] at p
    have p2 : parts 44 [(45 : UInt8)] = [[45]] := by decide
    rw [p2] at p
    simp only [List.cons.injEq] at p
    exact absurd (by rw [← p.1]; exact List.mem_singleton.2 rfl) (opT_no (h x (List.mem_cons_self ..)) (c := 45) (by unfold opSign; decide))
theorem opsL_no47 {l : List Op} (h : ∀ x ∈ l, okB x = true) : (47 : UInt8) ∉ opsL l := fun hm => by
  rcases opsL_sign h _ hm with h | h | h
  · revert h; unfold opSign; decide
  · revert h; decide
  · revert h; decide
theorem path_no {p : ByteArray} (hp : nameB p = true) : (63 : UInt8) ∉ p.data.toList := fun h => by
  have := path_sign hp 63 h
  revert this; decide
theorem askEnd_ok {s : ByteArray} {l : List Op} {p : ByteArray} {n : Int} (hl : l.length ≤ 5) (h : askB l p n = true) (e : askF l p n = s) : Tot (fun k => askEnd k s l p n) (fun r => r = (l, p, n, true)) :=
  Tot.mono (askEnd_tot s l (by omega) p n) (fun r h2 => h2.elim (fun x => x.2.2) (fun x => absurd ⟨h, e⟩ x.1))
theorem implAsk_complete (s : ByteArray) {l : List Op} {p : ByteArray} {n : Int} (h : askB l p n = true) (e : askF l p n = s) : Tot (fun k => impl_AskRead.f k s) (fun r => r = (l, p, n, true)) := by
  obtain ⟨m, rfl, hm, hok, hnm, h5, ht, hsz⟩ := ask_form h
  rw [e] at ht hsz
  have hw : wordF s ⟨#[47]⟩ = (baOf (opsL l ++ 47 :: (p.data.toList ++ 63 :: (101 :: 61 :: Lib.itoa (m : Int)))), true) := by
    unfold wordF Lib.trimPrefix Lib.hasPrefix
    rw [ht]
    simp [List.isPrefixOf, baOf]
  have hc1 : cutF (baOf (opsL l ++ 47 :: (p.data.toList ++ 63 :: (101 :: 61 :: Lib.itoa (m : Int))))) ⟨#[47]⟩ = (baOf (opsL l), baOf (p.data.toList ++ 63 :: (101 :: 61 :: Lib.itoa (m : Int))), true) := by
    unfold cutF
    rw [baOf_list, show (⟨#[47]⟩ : ByteArray).data.toList = [47] from rfl, cut_app (opsL_no47 hok)]
    rfl
  have hc2 : cutF (baOf (p.data.toList ++ 63 :: (101 :: 61 :: Lib.itoa (m : Int)))) ⟨#[63, 101, 61]⟩ = (p, baOf (Lib.itoa (m : Int)), true) := by
    unfold cutF
    have hcs := cut_sep (t := [101, 61]) (b := Lib.itoa (m : Int)) (path_no hnm)
    rw [baOf_list, show (⟨#[63, 101, 61]⟩ : ByteArray).data.toList = [63, 101, 61] from rfl, show p.data.toList ++ 63 :: (101 :: 61 :: Lib.itoa (m : Int)) = p.data.toList ++ (63 :: ([101, 61] ++ Lib.itoa (m : Int))) from rfl, hcs]
    have : (⟨p.data.toList.toArray⟩ : ByteArray) = p := baOf_self p
    dsimp only
    rw [this]
    rfl
  have w := word_len s ⟨#[47]⟩
  have c1 := cutF_len (wordF s ⟨#[47]⟩).1 ⟨#[47]⟩
  have c2 := cutF_len (cutF (wordF s ⟨#[47]⟩).1 ⟨#[47]⟩).2.1 ⟨#[63, 101, 61]⟩
  unfold impl_AskRead.f
  refine Tot.neg (by omega) (Tot.pos ⟨by omega, by omega, by omega, by omega⟩ ?_)
  rw [hw]
  dsimp only
  rw [hc1]
  dsimp only
  unfold askMid
  rw [hc2]
  dsimp only
  have hl : Tot (fun k => if (baOf (opsL l)).toList = [45] then some (([] : List Op), ((false || !true) || !true)) else scanG k (partsB (baOf (opsL l)) ⟨#[44]⟩) ((false || !true) || !true)) (fun r => r = (l, false)) := by
    by_cases hd : opsL l = [45]
    · refine Tot.pos (by rw [Lib.toList_data, baOf_list, hd]) (Tot.ret ?_)
      rw [(opsL_dash hok).1 hd]
      rfl
    · refine Tot.neg (by rw [Lib.toList_data, baOf_list]; exact hd) ?_
      rw [partsB_parts, baOf_list, opsL_parts hok, if_neg (fun hh => hd ((opsL_dash hok).2 hh))]
      exact scanG_ops l _ hok
  refine Tot.bind hl ?_
  rintro _ rfl
  refine Tot.bind (numRead_tot _) ?_
  intro r hr
  obtain rfl := hr m hm rfl
  exact Tot.neg (fun hh => Bool.false_ne_true hh) (askEnd_ok h5 h e)
theorem implAsk_tot (s : ByteArray) : Tot (fun k => impl_AskRead.f k s) (fun r => SaidA s r ∨ ((∀ r, ¬ SaidA s r) ∧ r = zA)) := by
  by_cases hx : ∃ r, SaidA s r
  · obtain ⟨_, l, p, n, h, e, rfl⟩ := hx
    exact Tot.mono (implAsk_complete s h e) (fun r hr => .inl ⟨l, p, n, h, e, hr⟩)
  · exact Tot.mono (implAsk_sound s) (fun r hr => hr.elim .inl (fun hz => .inr ⟨fun r h => hx ⟨r, h⟩, hz⟩))
end Go.Proofs.YtfafjpfigphchaaDoor.X
namespace Go.Proofs.YtfafjpfigphchaaDoor.X
open Go.RowKit Go.Proofs.YtfafjpfigphchaaDoorW.PrintWords Go.Proofs.YtfafjpfigphchaaDoor.Pl
set_option linter.unusedSimpArgs false
set_option linter.unusedVariables false
theorem rdOf_nat (ps : List ByteArray) (i : Nat) (h : i < ps.length) : rdOf ByteArray.empty ps (i : Int) = ps[i] := by
  unfold rdOf
  simp [List.getD_eq_getElem?_getD, h]
theorem l7Read_any (ps : List ByteArray) (hps : ∀ p ∈ ps, p.size ≤ 1048576) (hl : ps.length ≤ 1048577) : ∀ e i, i + e = ps.length → ∀ acc : List Op, acc.length ≤ i → Tot (fun k => spec_l7Read.l0 k acc ps i) (fun r => r.1.length ≤ 1048577)
  | 0, i, h, acc, ha => by
    refine Tot.succ ?_
    simp only [spec_l7Read.l0]
    exact Tot.neg (by omega) (Tot.ret (by dsimp only; omega))
  | e + 1, i, h, acc, ha => by
    have hi : i < ps.length := by omega
    refine Tot.succ ?_
    simp only [spec_l7Read.l0]
    refine Tot.pos (by omega) (Tot.pos (by omega) ?_)
    rw [rdOf_nat ps i hi]
    refine Tot.bind (specRead_tot _ (hps _ (List.getElem_mem hi))) ?_
    intro r _
    refine Tot.ite (fun _ => Tot.pos (by omega) ?_) (fun _ => Tot.ret (by simp))
    rw [wr_id (by omega) (by omega)]
    exact l7Read_any ps hps hl e (i + 1) (by omega) _ (by rw [List.length_append]; simp only [List.length_cons, List.length_nil]; omega)
theorem parts_okB (s : List UInt8) (c : UInt8) (hs : s.length ≤ 1048576) : (∀ p ∈ (parts c s).map baOf, p.size ≤ 1048576) ∧ ((parts c s).map baOf).length ≤ 1048577 := by
  refine ⟨fun p hp => ?_, ?_⟩
  · obtain ⟨q, hq, rfl⟩ := List.mem_map.1 hp
    have := parts_mem q hq
    rw [ba_size, baOf_list]
    omega
  · rw [List.length_map]
    have := (parts_len (c := c) s).1
    omega
theorem l7Read_sound (s : ByteArray) (hs : s.size ≤ 1048576) : Tot (fun k => spec_l7Read.f k s) (fun r => r.1.length ≤ 1048577) := by
  unfold spec_l7Read.f
  refine Tot.some_bind (Tot.ite (fun _ => Tot.ret (by simp)) (fun _ => ?_))
  refine Tot.bind (l7Cut_tot s 44 hs) ?_
  rintro _ rfl
  have hp := parts_okB s.data.toList 44 (by rw [← ba_size]; exact hs)
  exact l7Read_any _ hp.1 hp.2 _ 0 (Nat.zero_add _) [] (by simp)
theorem l7Read_ops (l : List Op) (h : ∀ x ∈ l, okB x = true) (h5 : l.length ≤ 5) : ∀ e i, i + e = l.length → Tot (fun k => spec_l7Read.l0 k (l.take i) ((l.map fun y => (opT y).data.toList).map baOf) i) (fun r => r = (l, true))
  | 0, i, hi => by
    refine Tot.succ ?_
    simp only [spec_l7Read.l0]
    refine Tot.neg (by simp; omega) (Tot.ret ?_)
    rw [List.take_of_length_le (by omega)]
  | e + 1, i, hi => by
    have hlt : i < l.length := by omega
    have ih := l7Read_ops l h h5 e (i + 1) (by omega)
    refine Tot.succ ?_
    simp only [spec_l7Read.l0]
    refine Tot.pos (by simp; omega) (Tot.pos (by omega) ?_)
    rw [rdOf_nat _ i (by simp; exact hlt)]
    have hx := h _ (List.getElem_mem hlt)
    have hsz := opT_21 hx
    rw [show ((l.map fun y => (opT y).data.toList).map baOf)[i]'(by simp; exact hlt) = opT l[i] by simp [baOf_self]]
    refine Tot.bind (specRead_complete (opT l[i]) (by rw [ba_size]; omega) (o := (l[i]).f0) (a := (l[i]).f1) (b := (l[i]).f2) (c := (l[i]).f3) (d := (l[i]).f4) hx rfl) ?_
    rintro _ rfl
    refine Tot.pos rfl (Tot.pos (by rw [List.length_take]; omega) ?_)
    rw [wr_id (by omega) (by omega)]
    have e2 : l.take i ++ [(⟨(l[i]).f0, (l[i]).f1, (l[i]).f2, (l[i]).f3, (l[i]).f4⟩ : Op)] = l.take (i + 1) := by
      rw [List.take_add_one, List.getElem?_eq_getElem hlt]
      rfl
    rw [e2]
    exact ih
theorem l7Read_complete (l : List Op) (h : ∀ x ∈ l, okB x = true) (h5 : l.length ≤ 5) : Tot (fun k => spec_l7Read.f k (baOf (opsL l))) (fun r => r = (l, true)) := by
  have hlen := opsL_len h h5
  unfold spec_l7Read.f
  refine Tot.some_bind ?_
  by_cases hd : opsL l = [45]
  · refine Tot.pos (by rw [Lib.toList_data, baOf_list, hd]) (Tot.ret ?_)
    rw [(opsL_dash h).1 hd]
  · refine Tot.neg (by rw [Lib.toList_data, baOf_list]; exact hd) ?_
    refine Tot.bind (l7Cut_tot _ 44 (by rw [ba_size, baOf_list]; omega)) ?_
    rintro _ rfl
    rw [baOf_list, opsL_parts h, if_neg (fun hh => hd ((opsL_dash h).2 hh))]
    exact l7Read_ops l h h5 l.length 0 (by omega)
theorem specAskJ1 (s : ByteArray) (x5 : List Op) (h5 : x5.length ≤ 1048577) (x7 : List ByteArray) (c : Bool) (hc : c = false → x7.length = 2 ∧ 3 ≤ (rdOf ByteArray.empty x7 1).size) : Tot (fun k => spec_AskRead.j1 k s x5 x7 c) (fun r => SaidA s r ∨ r = zA) := by
  refine Tot.succ ?_
  simp only [spec_AskRead.j1]
  refine Tot.ite (fun _ => Tot.ret (.inr rfl)) (fun hn => ?_)
  obtain ⟨h2, h3⟩ := hc (Bool.eq_false_iff.2 hn)
  refine Tot.pos (by omega) (Tot.pos (by omega) (Tot.pos (by omega) ?_))
  refine Tot.bind (l7Num_tot _) ?_
  intro n _
  refine Tot.bind (spec_AskText_tot x5 (by omega) _ n) ?_
  rintro _ rfl
  refine Tot.ite (fun he => Tot.ite (fun _ => Tot.ret (.inr rfl)) (fun h0 => Tot.ret (.inl ⟨x5, _, n, ?_, toList_ba.1 he, rfl⟩))) (fun _ => Tot.ret (.inr rfl))
  cases hk : askB x5 (rdOf ByteArray.empty x7 0) n with
  | true => rfl
  | false =>
    have he2 := toList_ba.1 he
    rw [askF_no hk] at he2
    rw [← he2] at h0
    exact absurd (by rw [Lib.toList_data]) h0
theorem specAskJ0 (s : ByteArray) (ps : List ByteArray) (hps : ∀ p ∈ ps, p.size ≤ 1048576) (c : Bool) (hc : c = false → ps.length = 3) : Tot (fun k => spec_AskRead.j0 k s ps c) (fun r => SaidA s r ∨ r = zA) := by
  refine Tot.succ ?_
  simp only [spec_AskRead.j0]
  refine Tot.ite (fun _ => Tot.ret (.inr rfl)) (fun hn => ?_)
  have h3 := hc (Bool.eq_false_iff.2 hn)
  have r1 : rdOf ByteArray.empty ps 1 = ps[1] := rdOf_nat ps 1 (by omega)
  have r2 : rdOf ByteArray.empty ps 2 = ps[2] := rdOf_nat ps 2 (by omega)
  refine Tot.pos (by omega) ?_
  rw [r1, r2]
  refine Tot.bind (l7Read_sound _ (hps _ (List.getElem_mem _))) ?_
  intro x hx
  refine Tot.pos (by omega) ?_
  refine Tot.bind (l7Cut_tot _ 63 (hps _ (List.getElem_mem _))) ?_
  intro y _
  refine Tot.ite (fun _ => Tot.ite (fun h2 => Tot.pos (by omega) ?_) (fun _ => ?_)) (fun _ => ?_)
  · refine specAskJ1 s _ hx y _ (fun hd => ⟨by omega, ?_⟩)
    have := of_decide_eq_false hd
    omega
  · exact specAskJ1 s _ hx y _ (fun hd => by cases hd)
  · exact specAskJ1 s _ hx y _ (fun hd => by cases hd)
theorem specAsk_sound (s : ByteArray) (hs : s.size ≤ 1048576) : Tot (fun k => spec_AskRead.f k s) (fun r => SaidA s r ∨ r = zA) := by
  unfold spec_AskRead.f
  refine Tot.bind (l7Cut_tot s 47 hs) ?_
  rintro _ rfl
  have hp := parts_okB s.data.toList 47 (by rw [← ba_size]; exact hs)
  refine Tot.ite (fun _ => specAskJ0 s _ hp.1 _ (fun hd => by cases hd)) (fun _ => specAskJ0 s _ hp.1 _ (fun hd => ?_))
  have := bne_eq_false_iff_eq.1 hd
  omega
theorem specAsk_complete (s : ByteArray) {l : List Op} {p : ByteArray} {n : Int} (h : askB l p n = true) (e : askF l p n = s) : Tot (fun k => spec_AskRead.f k s) (fun r => r = (l, p, n, true)) := by
  obtain ⟨m, rfl, hm, hok, hnm, h5, ht, hsz⟩ := ask_form h
  rw [e] at ht hsz
  obtain ⟨q1, q2⟩ := ask_parts (n := m) hok hnm
  have hs : (askI (opsF l) p (m : Int)) = s := by rw [← e]; unfold askF; rw [if_pos h]
  rw [hs] at q1
  have hi := (itoa_le4 m hm).1
  unfold spec_AskRead.f
  refine Tot.bind (l7Cut_tot s 47 (by omega)) ?_
  rintro _ rfl
  rw [q1]
  refine Tot.neg (by omega) ?_
  refine Tot.succ ?_
  simp only [spec_AskRead.j0]
  refine Tot.neg (by simp) (Tot.pos (by simp) ?_)
  rw [show rdOf ByteArray.empty (([[], opsL l, p.data.toList ++ 63 :: (101 :: 61 :: Lib.itoa (m : Int))]).map baOf) 1 = baOf (opsL l) from rfl, show rdOf ByteArray.empty (([[], opsL l, p.data.toList ++ 63 :: (101 :: 61 :: Lib.itoa (m : Int))]).map baOf) 2 = baOf (p.data.toList ++ 63 :: (101 :: 61 :: Lib.itoa (m : Int))) from rfl]
  refine Tot.bind (l7Read_complete l hok h5) ?_
  rintro _ rfl
  have hlast : (baOf (p.data.toList ++ 63 :: (101 :: 61 :: Lib.itoa (m : Int)))).size ≤ 1048576 := by
    have := congrArg List.length ht
    rw [ba_size] at hsz
    rw [ba_size, baOf_list]
    simp only [List.length_cons, List.length_append] at this ⊢
    omega
  refine Tot.pos (by show (2 : Int) < ((3 : Nat) : Int); decide) ?_
  refine Tot.bind (l7Cut_tot _ 63 hlast) ?_
  rintro _ rfl
  rw [baOf_list, q2]
  have hr1 : rdOf ByteArray.empty (([p.data.toList, 101 :: 61 :: Lib.itoa (m : Int)]).map baOf) 1 = baOf (101 :: 61 :: Lib.itoa (m : Int)) := rfl
  have hr0 : rdOf ByteArray.empty (([p.data.toList, 101 :: 61 :: Lib.itoa (m : Int)]).map baOf) 0 = p := baOf_self p
  have hz : (baOf (101 :: 61 :: Lib.itoa (m : Int))).size = 2 + (Lib.itoa (m : Int)).length := by
    rw [ba_size, baOf_list]; simp only [List.length_cons]; omega
  refine Tot.pos rfl (Tot.pos (by show ((2 : Nat) : Int) = 2; decide) (Tot.pos (by show (1 : Int) < ((2 : Nat) : Int); decide) ?_))
  rw [hr1, hz, show decide (((2 + (Lib.itoa (m : Int)).length : Nat) : Int) < 3) = false from decide_eq_false (by omega)]
  refine Tot.succ ?_
  simp only [spec_AskRead.j1]
  refine Tot.neg (by decide) (Tot.pos (by show (0 : Int) < ((2 : Nat) : Int); decide) (Tot.pos (by show (1 : Int) < ((2 : Nat) : Int); decide) ?_))
  rw [hr1, hr0, hz]
  refine Tot.pos (by omega) ?_
  have hx : (baOf (101 :: 61 :: Lib.itoa (m : Int))).extract 2 (2 + (Lib.itoa (m : Int)).length) = baOf (Lib.itoa (m : Int)) := by
    apply ba_ext
    rw [ByteArray.data_extract, Array.toList_extract, baOf_list, baOf_list]
    rw [List.extract_eq_take_drop]
    simp
  rw [hx]
  refine Tot.bind (l7Num_tot _) ?_
  intro v hv
  obtain rfl := hv m hm rfl
  refine Tot.bind (spec_AskText_tot l (by omega) p (m : Int)) ?_
  rintro _ rfl
  refine Tot.pos (by rw [e]) (Tot.neg (fun hh => ?_) (Tot.ret rfl))
  rw [Lib.toList_data, ht] at hh
  cases hh
theorem specAsk_tot (s : ByteArray) (hs : s.size ≤ 1048576) : Tot (fun k => spec_AskRead.f k s) (fun r => SaidA s r ∨ ((∀ r, ¬ SaidA s r) ∧ r = zA)) := by
  by_cases hx : ∃ r, SaidA s r
  · obtain ⟨_, l, p, n, h, e, rfl⟩ := hx
    exact Tot.mono (specAsk_complete s h e) (fun r hr => .inl ⟨l, p, n, h, e, hr⟩)
  · exact Tot.mono (specAsk_sound s hs) (fun r hr => hr.elim .inl (fun hz => .inr ⟨fun r h => hx ⟨r, h⟩, hz⟩))
theorem saidA_one {s : ByteArray} {r r' : AskR} (h : SaidA s r) (h' : SaidA s r') : r = r' := by
  obtain ⟨l, p, n, h1, h2, rfl⟩ := h
  obtain ⟨l', p', n', h1', h2', rfl⟩ := h'
  obtain ⟨rfl, rfl, rfl⟩ := askF_inj h1 h1' (h2.trans h2'.symm)
  rfl
theorem asks_same {s : ByteArray} {r r' : AskR} (h : SaidA s r ∨ ((∀ r, ¬ SaidA s r) ∧ r = zA)) (h' : SaidA s r' ∨ ((∀ r, ¬ SaidA s r) ∧ r' = zA)) : r = r' := by
  rcases h with h | ⟨h, rfl⟩ <;> rcases h' with h' | ⟨h', rfl⟩
  · exact saidA_one h h'
  · exact absurd h (h' _)
  · exact absurd h' (h _)
  · rfl
end Go.Proofs.YtfafjpfigphchaaDoor.X
namespace Go.Proofs.YtfafjpfigphchaaDoor.X
open Go.RowKit Go.Proofs.YtfafjpfigphchaaDoorW.PrintWords Go.Proofs.YtfafjpfigphchaaDoor.Pl
set_option linter.unusedSimpArgs false

theorem bits_xor_nonneg (a b : Int) (ha : 0 ≤ a) (ha' : a < 4611686018427387904) (hb : 0 ≤ b) (hb' : b < 4611686018427387904) : 0 ≤ Go.bits .xor .i64 a b ∧ Go.bits .xor .i64 a b < 4611686018427387904 := by
  obtain ⟨m, rfl⟩ := Int.eq_ofNat_of_zero_le ha
  obtain ⟨n, rfl⟩ := Int.eq_ofNat_of_zero_le hb
  have h1 : m < 2 ^ 62 := by omega
  have h2 : n < 2 ^ 62 := by omega
  have hx : m ^^^ n < 2 ^ 62 := Nat.xor_lt_two_pow h1 h2
  have hm : m % 2 ^ 64 = m := Nat.mod_eq_of_lt (by omega)
  have hn : n % 2 ^ 64 = n := Nat.mod_eq_of_lt (by omega)
  have e : Go.bits .xor .i64 (m : Int) (n : Int) = ((m ^^^ n : Nat) : Int) := by
    have hb : (BitVec.ofNat 64 m ^^^ BitVec.ofNat 64 n).toNat = m ^^^ n := by rw [BitVec.toNat_xor, BitVec.toNat_ofNat, BitVec.toNat_ofNat, hm, hn]
    simp only [Go.bits, IntKind.bits, BitVec.ofInt_natCast]
    rw [IntKind.wrap_i64]
    change (((BitVec.ofNat 64 m ^^^ BitVec.ofNat 64 n).toNat : Int) + 9223372036854775808) % 18446744073709551616 - 9223372036854775808 = _
    rw [hb]
    omega
  rw [e]
  omega

/-- The bytes of a code. -/
def Bytes (l : List Int) : Prop := l.length ≤ 2000 ∧ ∀ y ∈ l, 0 ≤ y ∧ y ≤ 255
theorem bytes_rd {l : List Int} (h : Bytes l) (i : Int) : 0 ≤ rd l i ∧ rd l i ≤ 255 := by
  unfold rd
  by_cases hi : i.toNat < l.length
  · exact h.2 _ (getD_mem l 0 i.toNat hi)
  · rw [List.getD_eq_getElem?_getD, List.getElem?_eq_none (by omega)]
    simp

theorem tmod_bd (a n : Int) (ha : 0 ≤ a) (hn : 0 < n) : 0 ≤ Int.tmod a n ∧ Int.tmod a n < n := by
  rw [Int.tmod_eq_emod_of_nonneg ha]
  exact ⟨Int.emod_nonneg _ (by omega), Int.emod_lt_of_pos _ hn⟩

theorem pick_ev (l : List Int) (hl : Bytes l) (p n : Int) (h0 : 0 ≤ p) (h1 : p ≤ 1000000000000) :
    ∃ r, Ev (fun k => spec_l20Rd_pick.f k l p n) (r, p + 1) ∧ 0 ≤ r ∧ (1 ≤ n → r < n) ∧ (n < 1 → r = 0) := by
  have w1 : wrap64 (p + 1) = p + 1 := wrap_id (by omega) (by omega)
  have w2 : wrap64 (p + 1 - 1) = p := by rw [show p + 1 - 1 = p by omega]; exact wrap_id (by omega) (by omega)
  by_cases hn : n < 1
  · refine ⟨0, ev_succ ⟨0, fun k _ => ?_⟩, by omega, fun h => absurd h (by omega), fun _ => rfl⟩
    simp [spec_l20Rd_pick.f, hn, spec_l20Rd_pick.j0, w1]
  have hne : ¬ (n = 0) := by omega
  by_cases hz : l.length = 0
  · refine ⟨0, ev_succ ⟨0, fun k _ => ?_⟩, by omega, fun h => by omega, fun h => absurd h hn⟩
    simp [spec_l20Rd_pick.f, hn, hz, spec_l20Rd_pick.j0, w1]
  have hz' : ¬ ((l.length : Int) = 0) := by omega
  have hzb : ((l.length : Int) == 0) = false := by simpa using hz
  by_cases hlt : p < (l.length : Int)
  · have hb := bytes_rd hl p
    have w3 : wrap64 (rd l p) = rd l p := wrap_id (by omega) (by omega)
    have ht := tmod_bd (rd l p) n hb.1 (by omega)
    refine ⟨Int.tmod (rd l p) n, ev_succ ⟨0, fun k _ => ?_⟩, ht.1, fun _ => ht.2, fun h => absurd h hn⟩
    simp only [spec_l20Rd_pick.f]
    rw [if_neg hn, hzb, w1]
    simp only [spec_l20Rd_pick.j0]
    rw [if_neg (by decide), w2, if_pos hlt, if_pos h0, if_neg hne, w3]
  · have L0 : (0 : Int) < (l.length : Int) := by omega
    have m1 := tmod_bd p (l.length : Int) h0 L0
    have w4 : wrap64 (p * 7) = p * 7 := wrap_id (by omega) (by omega)
    have w5 : wrap64 (p * 7 + 3) = p * 7 + 3 := wrap_id (by omega) (by omega)
    have m2 := tmod_bd (p * 7 + 3) (l.length : Int) (by omega) L0
    obtain ⟨i1, hi1⟩ : ∃ i, i = Int.tmod p (l.length : Int) := ⟨_, rfl⟩
    obtain ⟨i2, hi2⟩ : ∃ i, i = Int.tmod (p * 7 + 3) (l.length : Int) := ⟨_, rfl⟩
    have b1 := bytes_rd hl i1
    have b2 := bytes_rd hl i2
    obtain ⟨v1, hv1⟩ : ∃ v, v = rd l i1 := ⟨_, rfl⟩
    obtain ⟨v2, hv2⟩ : ∃ v, v = rd l i2 := ⟨_, rfl⟩
    have d1 : 0 ≤ Int.tdiv p (l.length : Int) ∧ Int.tdiv p (l.length : Int) ≤ p := by
      rw [Int.tdiv_eq_ediv_of_nonneg h0]
      exact ⟨Int.ediv_nonneg h0 (by omega), Int.ediv_le_self _ h0⟩
    obtain ⟨q, hq⟩ : ∃ q, q = Int.tdiv p (l.length : Int) := ⟨_, rfl⟩
    rw [← hi1] at m1
    rw [← hi2] at m2
    rw [← hv1] at b1
    rw [← hv2] at b2
    rw [← hq] at d1
    have x1 : wrap64 v1 = v1 := wrap_id (by omega) (by omega)
    have x2 : wrap64 v2 = v2 := wrap_id (by omega) (by omega)
    have x3 : wrap64 (v1 * 131) = v1 * 131 := wrap_id (by omega) (by omega)
    have x4 : wrap64 (v2 * 1117) = v2 * 1117 := wrap_id (by omega) (by omega)
    have x5 : wrap64 (v1 * 131 + v2 * 1117) = v1 * 131 + v2 * 1117 := wrap_id (by omega) (by omega)
    have x6 : wrap64 (p * 29) = p * 29 := wrap_id (by omega) (by omega)
    have x7 : wrap64 (v1 * 131 + v2 * 1117 + p * 29) = v1 * 131 + v2 * 1117 + p * 29 := wrap_id (by omega) (by omega)
    have x8 : wrap64 q = q := wrap_id (by omega) (by omega)
    have x9 : wrap64 (q * 53) = q * 53 := wrap_id (by omega) (by omega)
    have x10 : wrap64 (v1 * 131 + v2 * 1117 + p * 29 + q * 53) = v1 * 131 + v2 * 1117 + p * 29 + q * 53 := wrap_id (by omega) (by omega)
    obtain ⟨s, hs⟩ : ∃ s, s = v1 * 131 + v2 * 1117 + p * 29 + q * 53 := ⟨_, rfl⟩
    have hs0 : 0 ≤ s := by omega
    have hs1 : s ≤ 1000000000000000 := by omega
    have x11 : wrap64 (Int.tdiv s 64) = s / 64 := by
      rw [Int.tdiv_eq_ediv_of_nonneg hs0]
      exact wrap_id (by omega) (by omega)
    have hx := bits_xor_nonneg s (s / 64) hs0 (by omega) (by omega) (by omega)
    have ht := tmod_bd (Go.bits .xor .i64 s (s / 64)) n hx.1 (by omega)
    refine ⟨Int.tmod (Go.bits .xor .i64 s (s / 64)) n, ev_succ ⟨0, fun k _ => ?_⟩, ht.1, fun _ => ht.2, fun h => absurd h hn⟩
    simp only [spec_l20Rd_pick.f]
    rw [if_neg hn, hzb, w1]
    simp only [spec_l20Rd_pick.j0]
    rw [if_neg (by decide), w2, if_neg hlt, if_neg hz', w4, w5, ← hi1, ← hi2, if_pos m1.1, if_pos m1.2, if_pos m2.1, if_pos m2.2, if_neg hne, ← hv1, ← hv2, ← hq]
    simp only [x1, x2, x3, x4, x5, x6, x7, x8, x9, x10]
    rw [← hs, x11]

theorem odd_ev (l : List Int) (hl : Bytes l) (p n : Int) (h0 : 0 ≤ p) (h1 : p ≤ 1000000000000) (hn : n ≤ 1000000) :
    ∃ b q, Ev (fun k => spec_l20Rd_odd.f k l p n) (b, q) ∧ p ≤ q ∧ q ≤ p + 1 ∧ (n ≤ 0 → b = false) := by
  by_cases hn0 : n > 0
  · obtain ⟨r, ⟨K, hr⟩, _, _, _⟩ := pick_ev l hl p n h0 h1
    refine ⟨r == wrap64 (n - 1), p + 1, ⟨K, fun k hk => ?_⟩, by omega, by omega, fun h => absurd h (by omega)⟩
    have := hr k hk
    dsimp only at this
    simp [spec_l20Rd_odd.f, hn0, this]
  · refine ⟨false, p, ⟨0, fun k _ => ?_⟩, by omega, by omega, fun _ => rfl⟩
    simp [spec_l20Rd_odd.f, hn0]

theorem pick_tot {l : List Int} (hl : Bytes l) (p n : Int) (h0 : 0 ≤ p) (h1 : p ≤ 1000000000000) :
    Tot (fun k => spec_l20Rd_pick.f k l p n) (fun x => x.2 = p + 1 ∧ 0 ≤ x.1 ∧ (1 ≤ n → x.1 < n) ∧ (n < 1 → x.1 = 0)) := by
  obtain ⟨r, h, a, b, c⟩ := pick_ev l hl p n h0 h1
  exact ⟨_, h, rfl, a, b, c⟩
theorem odd_tot {l : List Int} (hl : Bytes l) (p n : Int) (h0 : 0 ≤ p) (h1 : p ≤ 1000000000000) (hn : n ≤ 1000000) :
    Tot (fun k => spec_l20Rd_odd.f k l p n) (fun x => p ≤ x.2 ∧ x.2 ≤ p + 1 ∧ (n ≤ 0 → x.1 = false)) := by
  obtain ⟨b, q, h, c⟩ := odd_ev l hl p n h0 h1 hn
  exact ⟨_, h, c⟩
theorem open_some (l : List Int) (hu : ∀ y ∈ l, 0 ≤ y ∧ y ≤ 255) : ∃ b, spec_l20Open.f l = some (b, 0) ∧ Bytes b := by
  unfold spec_l20Open.f
  by_cases h : (l.length : Int) > 2000
  · rw [if_pos h, if_pos (by omega)]
    refine ⟨l.take 2000, rfl, ?_, fun y hy => hu y (List.mem_of_mem_take hy)⟩
    rw [List.length_take]
    omega
  · rw [if_neg h]
    exact ⟨l, rfl, by omega, hu⟩
end Go.Proofs.YtfafjpfigphchaaDoor.X
namespace Go.Proofs.YtfafjpfigphchaaDoor.X
open Go.RowKit Go.Proofs.YtfafjpfigphchaaDoorW.PrintWords Go.Proofs.YtfafjpfigphchaaDoor.Pl
set_option linter.unusedSimpArgs false
set_option linter.unusedVariables false

theorem l20Op_j0_tot {l : List Int} (hl : Bytes l) (n p o a b c d : Int) (h0 : 0 ≤ p) (h1 : p ≤ 900000000000) (hn : n ≤ 1000) :
    Tot (fun k => spec_l20Op.j0 k n l p o a b c d) (fun x => p ≤ x.2.2.2.2.2 ∧ x.2.2.2.2.2 ≤ p + 3) := by
  refine Tot.succ ?_
  simp only [spec_l20Op.j0]
  refine Tot.bind (odd_tot hl p n h0 (by omega) (by omega)) ?_
  rintro ⟨b1, p1⟩ ⟨e1, e2, -⟩
  dsimp only at e1 e2 ⊢
  refine Tot.ite ?_ ?_ <;> intro hb
  · refine Tot.bind (pick_tot hl p1 4 (by omega) (by omega)) ?_
    rintro ⟨r2, p2⟩ ⟨e3, e4, e5, -⟩
    dsimp only at e3 e4 e5 ⊢
    refine Tot.ite ?_ ?_ <;> intro h
    all_goals try (refine Tot.ite ?_ ?_ <;> intro h')
    all_goals try (refine Tot.ite ?_ ?_ <;> intro h'')
    all_goals
      refine Tot.some_bind ?_
      refine Tot.bind (pick_tot hl p2 2 (by omega) (by omega)) ?_
      rintro ⟨r3, p3⟩ ⟨e6, e7, e8, -⟩
      dsimp only at e6 e7 e8 ⊢
      refine Tot.pos e7 (Tot.pos ?_ (Tot.ret ?_))
      · simp only [List.length_cons, List.length_nil]; omega
      · dsimp only; omega
  · exact Tot.ret (by dsimp only; omega)

theorem l20Op_tot {l : List Int} (hl : Bytes l) (p n : Int) (h0 : 0 ≤ p) (h1 : p ≤ 800000000000) (hn : n ≤ 1000) :
    Tot (fun k => spec_l20Op.f k l p n) (fun x => p ≤ x.2.2.2.2.2 ∧ x.2.2.2.2.2 ≤ p + 8) := by
  simp only [spec_l20Op.f]
  refine Tot.bind (pick_tot hl p 8 h0 (by omega)) ?_
  rintro ⟨r0, p0⟩ ⟨e1, e2, e3, -⟩
  dsimp only at e1 e2 e3 ⊢
  refine Tot.ite ?_ ?_ <;> intro h
  · refine Tot.bind (pick_tot hl p0 3 (by omega) (by omega)) ?_
    rintro ⟨r4, p4⟩ ⟨e4, -, -, -⟩
    dsimp only at e4 ⊢
    refine Tot.bind (pick_tot hl p4 3 (by omega) (by omega)) ?_
    rintro ⟨r5, p5⟩ ⟨e5, -, -, -⟩
    dsimp only at e5 ⊢
    refine Tot.bind (pick_tot hl p5 4 (by omega) (by omega)) ?_
    rintro ⟨r6, p6⟩ ⟨e6, -, -, -⟩
    dsimp only at e6 ⊢
    refine Tot.bind (pick_tot hl p6 4 (by omega) (by omega)) ?_
    rintro ⟨r7, p7⟩ ⟨e7, -, -, -⟩
    dsimp only at e7 ⊢
    exact (l20Op_j0_tot hl n p7 _ _ _ _ _ (by omega) (by omega) hn).mono (fun x hx => by omega)
  refine Tot.ite ?_ ?_ <;> intro h
  · refine Tot.bind (pick_tot hl p0 6 (by omega) (by omega)) ?_
    rintro ⟨r4, p4⟩ ⟨e4, -, -, -⟩
    dsimp only at e4 ⊢
    refine Tot.bind (pick_tot hl p4 6 (by omega) (by omega)) ?_
    rintro ⟨r5, p5⟩ ⟨e5, -, -, -⟩
    dsimp only at e5 ⊢
    exact (l20Op_j0_tot hl n p5 _ _ _ _ _ (by omega) (by omega) hn).mono (fun x hx => by omega)
  refine Tot.ite ?_ ?_ <;> intro h
  · refine Tot.bind (pick_tot hl p0 256 (by omega) (by omega)) ?_
    rintro ⟨r4, p4⟩ ⟨e4, -, -, -⟩
    dsimp only at e4 ⊢
    refine Tot.bind (pick_tot hl p4 256 (by omega) (by omega)) ?_
    rintro ⟨r5, p5⟩ ⟨e5, -, -, -⟩
    dsimp only at e5 ⊢
    refine Tot.bind (pick_tot hl p5 256 (by omega) (by omega)) ?_
    rintro ⟨r6, p6⟩ ⟨e6, -, -, -⟩
    dsimp only at e6 ⊢
    exact (l20Op_j0_tot hl n p6 _ _ _ _ _ (by omega) (by omega) hn).mono (fun x hx => by omega)
  · exact (l20Op_j0_tot hl n p0 _ _ _ _ _ (by omega) (by omega) hn).mono (fun x hx => by omega)

abbrev DOp := S23
theorem l20Ops_l1_tot {l : List Int} (p : Int) : ∀ s : List DOp, s.length ≤ 100 → Tot (fun k => spec_l20Ops.l1 k s l p) (fun x => x.1.length ≤ 100 ∧ x.2 = p) := by
  refine tot_ind (fun k s => spec_l20Ops.l1 k s l p) (fun s => s.length ≤ 100) (fun s => 6 - s.length) _ ?_
  intro s hs ih
  refine Tot.succ ?_
  simp only [spec_l20Ops.l1]
  refine Tot.ite ?_ ?_ <;> intro h
  · refine Tot.pos (by omega) ?_
    exact ih (s ++ [⟨4, 0, 0, 0, 0⟩]) (by simp; omega) (by simp; omega)
  · exact Tot.ret ⟨hs, rfl⟩
theorem l20Ops_j1_tot {l : List Int} (hl : Bytes l) (n : Int) (s : List DOp) (p : Int) (hs : s.length ≤ 100) (h0 : 0 ≤ p) (h1 : p ≤ 750000000000) (hn : n ≤ 1000) :
    Tot (fun k => spec_l20Ops.j1 k n s l p) (fun x => x.1.length ≤ 100 ∧ p ≤ x.2 ∧ x.2 ≤ p + 1) := by
  refine Tot.succ ?_
  simp only [spec_l20Ops.j1]
  refine Tot.bind (odd_tot hl p n h0 (by omega) (by omega)) ?_
  rintro ⟨b1, p1⟩ ⟨e1, e2, -⟩
  dsimp only at e1 e2 ⊢
  refine Tot.ite ?_ ?_ <;> intro hb
  · exact (l20Ops_l1_tot p1 s hs).mono (fun x hx => ⟨hx.1, by omega, by omega⟩)
  · exact Tot.ret ⟨hs, e1, e2⟩
theorem l20Ops_l0_tot {l : List Int} (hl : Bytes l) (n P : Int) (hP : P ≤ 700000000000) (hn : n ≤ 1000) : ∀ s : List DOp × Int × Int, (0 ≤ s.2.2 ∧ s.2.1 ≤ 5 ∧ s.1.length ≤ 50 - s.2.1.toNat ∧ s.2.2 + 8 * (max s.2.1 0) ≤ P) →
    Tot (fun k => spec_l20Ops.l0 k n s.1 s.2.1 l s.2.2) (fun x => x.1.length ≤ 100 ∧ 0 ≤ x.2 ∧ x.2 ≤ P + 20) := by
  refine tot_ind (fun k (s : List DOp × Int × Int) => spec_l20Ops.l0 k n s.1 s.2.1 l s.2.2) _ (fun s => s.2.1.toNat) _ ?_
  rintro ⟨s, c, p⟩ ⟨i1, i2, i4, i5⟩ ih
  dsimp only at i1 i2 i4 i5 ⊢
  refine Tot.succ ?_
  simp only [spec_l20Ops.l0]
  refine Tot.ite ?_ ?_ <;> intro h
  · refine Tot.bind (l20Op_tot hl p 0 (by omega) (by omega) (by omega)) ?_
    rintro ⟨o, a, b, c', d, q⟩ ⟨e1, e2⟩
    dsimp only at e1 e2 ⊢
    refine Tot.pos (by omega) ?_
    have w : wrap64 (c - 1) = c - 1 := wrap_id (by omega) (by omega)
    rw [w]
    exact ih (s ++ [⟨o, a, b, c', d⟩], c - 1, q) (by dsimp only; rw [List.length_append]; simp only [List.length_cons, List.length_nil]; omega) (by dsimp only; omega)
  · refine Tot.bind (odd_tot hl p n (by omega) (by omega) (by omega)) ?_
    rintro ⟨b1, p1⟩ ⟨e1, e2, -⟩
    dsimp only at e1 e2 ⊢
    refine Tot.ite ?_ ?_ <;> intro hb
    · refine Tot.bind (l20Op_tot hl p1 1 (by omega) (by omega) (by omega)) ?_
      rintro ⟨o, a, b, c', d, q⟩ ⟨e3, e4⟩
      dsimp only at e3 e4 ⊢
      refine Tot.pos (by omega) ?_
      exact (l20Ops_j1_tot hl n _ q (by rw [List.length_append]; simp only [List.length_cons, List.length_nil]; omega) (by omega) (by omega) hn).mono (fun x hx => ⟨hx.1, by omega, by omega⟩)
    · exact (l20Ops_j1_tot hl n s p1 (by omega) (by omega) (by omega) hn).mono (fun x hx => ⟨hx.1, by omega, by omega⟩)
theorem l20Ops_tot {l : List Int} (hl : Bytes l) (p n : Int) (h0 : 0 ≤ p) (h1 : p ≤ 600000000000) (hn : n ≤ 1000) :
    Tot (fun k => spec_l20Ops.f k l p n) (fun x => x.1.length ≤ 100 ∧ 0 ≤ x.2 ∧ x.2 ≤ p + 100) := by
  simp only [spec_l20Ops.f]
  refine Tot.bind (pick_tot hl p 6 h0 (by omega)) ?_
  rintro ⟨r0, p0⟩ ⟨e1, e2, e3, -⟩
  dsimp only at e1 e2 e3 ⊢
  exact (l20Ops_l0_tot hl n (p0 + 50) (by omega) hn ([], r0, p0) (by dsimp only [List.length_nil]; omega)).mono (fun x hx => ⟨hx.1, by omega, by omega⟩)
end Go.Proofs.YtfafjpfigphchaaDoor.X
namespace Go.Proofs.YtfafjpfigphchaaDoor.X
open Go.RowKit Go.Proofs.YtfafjpfigphchaaDoorW.PrintWords Go.Proofs.YtfafjpfigphchaaDoor.Pl
set_option linter.unusedSimpArgs false
set_option linter.unusedVariables false
theorem l20Path_tot {l : List Int} (hl : Bytes l) (p : Int) (h0 : 0 ≤ p) (h1 : p ≤ 900000000000) : Tot (fun k => spec_l20Path.f k l p) (fun x => x.2 = p + 1) := by
  simp only [spec_l20Path.f]
  refine Tot.some_bind ?_
  refine Tot.bind (pick_tot hl p 5 h0 (by omega)) ?_
  rintro ⟨r0, p0⟩ ⟨e1, e2, e3, -⟩
  dsimp only at e1 e2 e3 ⊢
  refine Tot.pos e2 (Tot.pos ?_ (Tot.ret e1))
  simp only [List.length_cons, List.length_nil]; omega
theorem l20Ask_tot {l : List Int} (hl : Bytes l) (p n : Int) (h0 : 0 ≤ p) (h1 : p ≤ 500000000000) (hn : n ≤ 1000) :
    Tot (fun k => spec_l20Ask.f k l p n) (fun x => x.1.length ≤ 101 ∧ 0 ≤ x.2.2.2 ∧ x.2.2.2 ≤ p + 200) := by
  simp only [spec_l20Ask.f]
  refine Tot.bind (l20Ops_tot hl p 0 h0 (by omega) (by omega)) ?_
  rintro ⟨ops, p0⟩ ⟨f1, f2, f3⟩
  dsimp only at f1 f2 f3 ⊢
  refine Tot.bind (l20Path_tot hl p0 (by omega) (by omega)) ?_
  rintro ⟨s, p1⟩ f4
  dsimp only at f4 ⊢
  refine Tot.bind (pick_tot hl p1 80 (by omega) (by omega)) ?_
  rintro ⟨r2, p2⟩ ⟨e4, -, -, -⟩
  dsimp only at e4 ⊢
  refine Tot.some_bind ?_
  refine Tot.bind (pick_tot hl p2 2 (by omega) (by omega)) ?_
  rintro ⟨r3, p3⟩ ⟨e5, e6, e7, -⟩
  dsimp only at e5 e6 e7 ⊢
  refine Tot.pos e6 (Tot.pos (by simp only [List.length_cons, List.length_nil]; omega) ?_)
  refine Tot.bind (odd_tot hl p3 n (by omega) (by omega) (by omega)) ?_
  rintro ⟨b4, p4⟩ ⟨e8, e9, -⟩
  dsimp only at e8 e9 ⊢
  refine Tot.ite ?_ ?_ <;> intro hb
  · refine Tot.bind (pick_tot hl p4 3 (by omega) (by omega)) ?_
    rintro ⟨r5, p5⟩ ⟨e10, e11, e12, -⟩
    dsimp only at e10 e11 e12 ⊢
    refine Tot.ite ?_ ?_ <;> intro h
    · refine Tot.some_bind ?_
      refine Tot.bind (pick_tot hl p5 4 (by omega) (by omega)) ?_
      rintro ⟨r6, p6⟩ ⟨g1, g2, g3, -⟩
      dsimp only at g1 g2 g3 ⊢
      exact Tot.pos g2 (Tot.pos (by simp only [List.length_cons, List.length_nil]; omega) (Tot.ret ⟨by dsimp only; omega, by dsimp only; omega, by dsimp only; omega⟩))
    refine Tot.ite ?_ ?_ <;> intro h
    · refine Tot.some_bind ?_
      refine Tot.bind (pick_tot hl p5 2 (by omega) (by omega)) ?_
      rintro ⟨r6, p6⟩ ⟨g1, g2, g3, -⟩
      dsimp only at g1 g2 g3 ⊢
      exact Tot.pos g2 (Tot.pos (by simp only [List.length_cons, List.length_nil]; omega) (Tot.ret ⟨by dsimp only; omega, by dsimp only; omega, by dsimp only; omega⟩))
    · refine Tot.bind (l20Op_tot hl p5 1 (by omega) (by omega) (by omega)) ?_
      rintro ⟨o, a, b, c', d, q⟩ ⟨g1, g2⟩
      dsimp only at g1 g2 ⊢
      exact Tot.pos (by omega) (Tot.ret ⟨by dsimp only; rw [List.length_append]; simp only [List.length_cons, List.length_nil]; omega, by dsimp only; omega, by dsimp only; omega⟩)
  · exact Tot.ret ⟨by dsimp only; omega, by dsimp only; omega, by dsimp only; omega⟩
end Go.Proofs.YtfafjpfigphchaaDoor.X
namespace Go.Proofs.YtfafjpfigphchaaDoor.X
open Go.RowKit Go.Proofs.YtfafjpfigphchaaDoorW.PrintWords Go.Proofs.YtfafjpfigphchaaDoor.Pl
set_option linter.unusedSimpArgs false
set_option linter.unusedVariables false
theorem str_one (n : Int) : (strOfNums [n]).size = 1 := by
  rw [ba_size, ← Lib.toList_data, Lib.strOfNums_toList]
  rfl
theorem ext_le (a : ByteArray) (i j : Nat) : (a.extract i j).size ≤ a.size := by
  rw [ByteArray.size_extract]; omega
theorem l20Bent_tot {l : List Int} (hl : Bytes l) (p : Int) (h0 : 0 ≤ p) (h1 : p ≤ 900000000000) (s : ByteArray) (hs : s.size ≤ 100000) :
    Tot (fun k => spec_l20Bent.f k l p s) (fun x => x.1.size ≤ 200001) := by
  simp only [spec_l20Bent.f]
  rw [wr_id (x := (s.size : Int) + 1) (by omega) (by omega)]
  refine Tot.bind (pick_tot hl p ((s.size : Int) + 1) h0 (by omega)) ?_
  rintro ⟨r0, p0⟩ ⟨e0, a0, b0, -⟩
  dsimp only at e0 a0 b0 ⊢
  refine Tot.bind (pick_tot hl p0 256 (by omega) (by omega)) ?_
  rintro ⟨r1, p1⟩ ⟨e1, a1, b1, -⟩
  dsimp only at e1 a1 b1 ⊢
  refine Tot.some_bind ?_
  refine Tot.bind (pick_tot hl p1 8 (by omega) (by omega)) ?_
  rintro ⟨r2, p2⟩ ⟨e2, a2, b2, -⟩
  dsimp only at e2 a2 b2 ⊢
  refine Tot.pos a2 (Tot.pos (by simp only [List.length_cons, List.length_nil]; omega) (Tot.some_bind ?_))
  refine Tot.bind (pick_tot hl p2 3 (by omega) (by omega)) ?_
  rintro ⟨r3, p3⟩ ⟨e3, a3, b3, -⟩
  dsimp only at e3 a3 b3 ⊢
  have x1 := ext_le s 0 r0.toNat
  have x2 := ext_le s r0.toNat s.size
  have x3 := ext_le s (r0 + 1).toNat s.size
  have x4 : ∀ n : Int, (strOfNums [n]).size = 1 := str_one
  refine Tot.ite (fun _ => ?_) (fun _ => Tot.ite (fun _ => Tot.ite (fun hlt => ?_) (fun _ => Tot.ret (by dsimp only; omega))) (fun _ => Tot.ite (fun hlt => ?_) (fun _ => Tot.ret (by dsimp only; omega))))
  · refine Tot.pos a0 (Tot.pos (by omega) (Tot.pos (by rw [x4]; omega) (Tot.pos (by rw [ByteArray.size_append, x4]; omega) (Tot.ret ?_))))
    dsimp only
    rw [ByteArray.size_append, ByteArray.size_append, x4]
    omega
  · rw [wr_id (x := r0 + 1) (by omega) (by omega)]
    refine Tot.pos a0 (Tot.pos (by omega) (Tot.pos (by omega) (Tot.pos (by omega) (Tot.pos (by omega) (Tot.ret ?_)))))
    dsimp only
    rw [ByteArray.size_append]
    omega
  · rw [wr_id (x := r0 + 1) (by omega) (by omega)]
    refine Tot.pos a0 (Tot.pos (by omega) (Tot.pos (by rw [x4]; omega) (Tot.pos (by omega) (Tot.pos (by omega) (Tot.pos (by rw [ByteArray.size_append, x4]; omega) (Tot.ret ?_))))))
    dsimp only
    rw [ByteArray.size_append, ByteArray.size_append, x4]
    omega
end Go.Proofs.YtfafjpfigphchaaDoor.X
namespace Go.Proofs.YtfafjpfigphchaaDoor.Pure
open Go.RowKit Go.Proofs.YtfafjpfigphchaaDoorW.PrintWords Go.Proofs.YtfafjpfigphchaaDoor.Pl Go.Proofs.YtfafjpfigphchaaDoor.X
set_option linter.unusedVariables false
set_option linter.unusedSimpArgs false
theorem ByteOk {n : Int} (h : (Lit.int .u8 n).wf = true) : 0 ≤ n ∧ n ≤ 255 := by
  simp [Lit.wf, IntKind.min, IntKind.max, IntKind.signed, IntKind.bits] at h; omega
theorem op_ext {x y : X.Op} (h0 : x.f0 = y.f0) (h1 : x.f1 = y.f1) (h2 : x.f2 = y.f2) (h3 : x.f3 = y.f3) (h4 : x.f4 = y.f4) : x = y := by
  cases x; cases y; simp only at h0 h1 h2 h3 h4; subst h0 h1 h2 h3 h4; rfl
theorem eaOps_loop (a b : List X.Op) (h : a.length = b.length) (h5 : a.length ≤ 1000) : ∀ e i, i + e = a.length → a.take i = b.take i → Tot (fun k => laws_eaOps.l0 k a b i) (fun r => r = true ↔ a = b)
  | 0, i, hi, ht => by
    refine Tot.succ ?_
    simp only [laws_eaOps.l0]
    refine Tot.neg (by omega) (Tot.ret ?_)
    rw [List.take_of_length_le (by omega), List.take_of_length_le (by omega)] at ht
    exact ⟨fun _ => ht, fun _ => rfl⟩
  | e + 1, i, hi, ht => by
    have ia : i < a.length := by omega
    have ib : i < b.length := by omega
    have ra : rd_T23 a (i : Int) = a[i] := by simp [rd_T23, List.getD_eq_getElem?_getD, ia]
    have rb : rd_T23 b (i : Int) = b[i] := by simp [rd_T23, List.getD_eq_getElem?_getD, ib]
    refine Tot.succ ?_
    simp only [laws_eaOps.l0]
    refine Tot.pos (by omega) (Tot.pos (by omega) (Tot.pos (by omega) ?_))
    rw [ra, rb]
    by_cases hx : a[i] = b[i]
    · refine Tot.neg (by rw [hx]; simp) ?_
      rw [wr_id (by omega) (by omega)]
      refine eaOps_loop a b h h5 e (i + 1) (by omega) ?_
      rw [List.take_add_one, List.take_add_one, ht, List.getElem?_eq_getElem ia, List.getElem?_eq_getElem ib, hx]
    · refine Tot.pos ?_ (Tot.ret ?_)
      · by_cases c0 : a[i].f0 = b[i].f0
        · by_cases c1 : a[i].f1 = b[i].f1
          · by_cases c2 : a[i].f2 = b[i].f2
            · by_cases c3 : a[i].f3 = b[i].f3
              · have c4 : ¬ a[i].f4 = b[i].f4 := fun c4 => hx (op_ext c0 c1 c2 c3 c4)
                simp [c4]
              · simp [c3]
            · simp [c2]
          · simp [c1]
        · simp [c0]
      · refine ⟨fun hh => absurd hh (by decide), fun hab => absurd ?_ hx⟩
        subst hab
        rfl
theorem eaOps_tot (a b : List X.Op) (h5 : a.length ≤ 1000) : Tot (fun k => laws_eaOps.f k a b) (fun r => r = true ↔ a = b) := by
  unfold laws_eaOps.f
  by_cases h : a.length = b.length
  · refine Tot.pos (by omega) ?_
    exact eaOps_loop a b h h5 a.length 0 (by omega) rfl
  · refine Tot.neg (by omega) (Tot.ret ?_)
    exact ⟨fun hh => absurd hh (by decide), fun hab => absurd (by rw [hab]) h⟩
theorem eaAsk_tot (a b : List X.Op) (p q : ByteArray) (s t : Int) (h5 : a.length ≤ 1000) : Tot (fun k => laws_eaAsk.f k a p s b q t) (fun r => r = true ↔ a = b ∧ p = q ∧ s = t) := by
  unfold laws_eaAsk.f
  refine Tot.bind (eaOps_tot a b h5) ?_
  intro r hr
  by_cases h : a = b
  · refine Tot.pos (hr.2 h) ?_
    by_cases h2 : p = q
    · refine Tot.pos (by rw [h2]) (Tot.ret ?_)
      simp [h, h2]
    · refine Tot.neg (fun hh => h2 (toList_ba.1 hh)) (Tot.ret ?_)
      simp [h2]
  · refine Tot.neg (fun hh => h (hr.1 hh)) (Tot.ret ?_)
    simp [h]
theorem drawAskText_tot {l : List Int} (hu : ∀ y ∈ l, 0 ≤ y ∧ y ≤ 255) : Tot (fun k => spec_DrawAskText.f k l) (fun x => x.1.length ≤ 101) := by
  unfold spec_DrawAskText.f
  obtain ⟨b, hb, hB⟩ := open_some l hu
  refine Tot.bind (Tot.of_eq hb) ?_; rintro _ rfl
  refine Tot.bind (l20Ask_tot hB 0 5 (by omega) (by omega) (by omega)) ?_
  rintro ⟨x, s, t, q⟩ ⟨e1, _, _⟩
  exact Tot.ret e1
theorem askF_6000 (l : List X.Op) (p : ByteArray) (n : Int) : (askF l p n).size ≤ 200 := by
  cases h : askB l p n with
  | true => obtain ⟨m, rfl, _, _, _, _, _, hz⟩ := ask_form h; exact hz
  | false => rw [askF_no h]; show 0 ≤ 200; omega
theorem drawAskRead_tot {l : List Int} (hu : ∀ y ∈ l, 0 ≤ y ∧ y ≤ 255) : Tot (fun k => spec_DrawAskRead.f k l) (fun s => s.size ≤ 200001) := by
  unfold spec_DrawAskRead.f
  obtain ⟨b, hb, hB⟩ := open_some l hu
  refine Tot.bind (Tot.of_eq hb) ?_; rintro _ rfl
  refine Tot.bind (l20Ask_tot hB 0 0 (by omega) (by omega) (by omega)) ?_
  rintro ⟨x, s, t, q⟩ ⟨e1, g1, g2⟩
  dsimp only at e1 g1 g2 ⊢
  refine Tot.bind (spec_AskText_tot x (by omega) s t) ?_; rintro _ rfl
  have ht := askF_6000 x s t
  refine Tot.bind (pick_tot hB q 4 (by omega) (by omega)) ?_
  rintro ⟨r0, p0⟩ ⟨e0, a0, b0, -⟩
  dsimp only at e0 a0 b0 ⊢
  refine Tot.ite (fun _ => ?_) (fun _ => Tot.ite (fun _ => ?_) (fun _ => Tot.ret (by omega)))
  · refine Tot.bind (l20Bent_tot hB p0 (by omega) (by omega) _ (by omega)) ?_
    intro x hx
    exact Tot.ret hx
  · refine Tot.some_bind ?_
    refine Tot.bind (pick_tot hB p0 12 (by omega) (by omega)) ?_
    rintro ⟨r1, p1⟩ ⟨e1, a1, b1, -⟩
    dsimp only at e1 a1 b1 ⊢
    refine Tot.pos a1 (Tot.pos (by simp only [List.length_cons, List.length_nil]; omega) (Tot.ret ?_))
    obtain ⟨n, rfl⟩ := Int.eq_ofNat_of_zero_le a1
    have hn : n < 12 := by omega
    match n, hn with
    | 0, _ => decide
    | 1, _ => decide
    | 2, _ => decide
    | 3, _ => decide
    | 4, _ => decide
    | 5, _ => decide
    | 6, _ => decide
    | 7, _ => decide
    | 8, _ => decide
    | 9, _ => decide
    | 10, _ => decide
    | 11, _ => decide
/-- Of what may be asked, its text is read as it; and where another text was read, they are the same just if what they say is. -/
theorem askText_j2 (s : ByteArray) (l : List X.Op) (hl : l.length ≤ 101) (p : ByteArray) (n : Int) (r : AskR) (hr : SaidA s r ∨ ((∀ r, ¬ SaidA s r) ∧ r = zA)) : Tot (fun k => laws_FnAskText.j2 k s (askF l p n) r.2.2.2 false l p n r.1 r.2.1 r.2.2.1) (fun b => b = true) := by
  refine Tot.succ ?_
  simp only [laws_FnAskText.j2]
  refine Tot.neg (by decide) ?_
  refine Tot.bind (Tot.of_ev (spec_AskOk_ev l (by omega) p n)) ?_; rintro _ rfl
  cases h : askB l p n with
  | true =>
    refine Tot.pos rfl ?_
    refine Tot.bind (implAsk_complete _ h rfl) ?_; rintro _ rfl
    refine Tot.pos rfl ?_
    refine Tot.bind (eaAsk_tot l l p p n n (by omega)) ?_
    intro b hb
    refine Tot.pos (hb.2 ⟨rfl, rfl, rfl⟩) ?_
    refine Tot.ite (fun ht => ?_) (fun _ => Tot.ret rfl)
    rcases hr with ⟨l', p', n', h', e', rfl⟩ | ⟨_, rfl⟩
    · refine Tot.bind (eaAsk_tot l l' p p' n n' (by omega)) ?_
      intro b' hb'
      refine Tot.ret ?_
      have key : (askF l p n = s) ↔ (l = l' ∧ p = p' ∧ n = n') := ⟨fun e => askF_inj h h' (e.trans e'.symm), fun ⟨e1, e2, e3⟩ => by rw [e1, e2, e3]; exact e'⟩
      rw [← toList_ba, ← hb'] at key
      cases b' with
      | true => rw [beq_iff_eq, beq_iff_eq]; exact key.2 rfl
      | false =>
        rw [beq_iff_eq, beq_eq_false_iff_ne]
        exact fun hh => absurd (key.1 hh) (by decide)
    · exact absurd ht (by simp [zA])
  | false =>
    refine Tot.neg (by decide) (Tot.pos ?_ ?_)
    · rw [askF_no h, Lib.toList_data]
    · exact Tot.bind (Tot.of_eq rfl) (fun x hx => Tot.ret hx)
theorem FnAskText : laws_FnAskText.Pure := by
  intro l0 l1 _ _ hw0 _ _ hw1
  have hu0 : ∀ y ∈ l0, 0 ≤ y ∧ y ≤ 255 := fun y hy => ByteOk (hw0 y hy)
  have hu1 : ∀ y ∈ l1, 0 ≤ y ∧ y ≤ 255 := fun y hy => ByteOk (hw1 y hy)
  refine Tot.rounds ?_
  have key : ∀ x : Bool, Tot (fun k => laws_FnAskText.j0 k l0 l1 x) (fun r => r = true) := by
    intro x
    refine Tot.succ ?_
    simp only [laws_FnAskText.j0]
    refine Tot.ite (fun _ => Tot.ret rfl) (fun _ => ?_)
    refine Tot.bind (drawAskText_tot hu0) ?_
    rintro ⟨l, p, n⟩ hl
    dsimp only at hl ⊢
    refine Tot.bind (drawAskRead_tot hu1) ?_
    intro s hs
    have h1 : s.size ≤ 1048576 := by omega
    refine Tot.bind (impl_AskText_tot l (by omega) p n) ?_; rintro _ rfl
    refine Tot.bind (implAsk_tot s) ?_
    intro r hr
    refine Tot.bind (specAsk_tot s h1) ?_
    intro r' hr'
    obtain rfl := asks_same hr hr'
    refine Tot.bind (spec_AskText_tot l (by omega) p n) ?_; rintro _ rfl
    have hlen : r.1.length ≤ 5 := by
      rcases hr with ⟨l', p', n', h', _, rfl⟩ | ⟨_, rfl⟩
      · exact (askB_parts h').1
      · simp [zA]
    refine Tot.pos rfl ?_
    refine Tot.bind (eaAsk_tot r.1 r.1 r.2.1 r.2.1 r.2.2.1 r.2.2.1 (by omega)) ?_
    intro b hb
    refine Tot.pos (hb.2 ⟨rfl, rfl, rfl⟩) (Tot.neg (by simp) ?_)
    refine Tot.bind (Tot.of_ev (impl_AskOk_ev l (by omega) p n)) ?_; rintro _ rfl
    refine Tot.bind (Tot.of_ev (spec_AskOk_ev l (by omega) p n)) ?_; rintro _ rfl
    refine Tot.succ ?_
    simp only [laws_FnAskText.j1]
    refine Tot.neg (by simp) ?_
    have last := askText_j2 s l hl p n r hr
    rcases hr with ⟨l', p', n', h', e', rfl⟩ | ⟨_, rfl⟩
    · dsimp only at hlen last ⊢
      refine Tot.pos rfl ?_
      refine Tot.bind (Tot.of_ev (impl_AskOk_ev l' (by omega) p' n')) ?_; rintro _ rfl
      refine Tot.pos h' ?_
      refine Tot.bind (impl_AskText_tot l' (by omega) p' n') ?_; rintro _ rfl
      refine Tot.pos (by rw [e']) ?_
      exact last
    · refine Tot.neg (by simp [zA]) ?_
      have e0 : ((zA.2.1).toList != ([] : List UInt8)) = false := by
        rw [Lib.toList_data]; rfl
      rw [e0]
      exact last
  unfold laws_FnAskText.f
  exact Tot.ite (fun _ => key _) (fun _ => key _)
end Go.Proofs.YtfafjpfigphchaaDoor.Pure
namespace Go.Proofs.YtfafjpfigphchaaDoor.X
set_option linter.unusedVariables false
variable {H : Type} {enc : TypeId × Value → H}
theorem returnsBoth {a : Assume} {C : Checked} {os : Os} {f : FuncId} {fn : Func} {s : ChangeSpec} {conds : List PathCond} {apart fresh handsOn again : Bool} {X : World → Array Value → Prop}
    (hX : ∀ (w w' : World) (args : Array Value), w.heap = w'.heap → X w args → X w' args)
    (own : ownKnob C.prog.godebug = none) (started : os.Started) (noInit : C.prog.inits.idxOf? f = none) (hfn : C.prog.funcs[f]? = some fn)
    (witness : ∃ (w : World) (tape : Tape) (i : Input), w.os = os ∧ (w.forCall tape i).Shaped C.prog ∧ i.vars = [] ∧ Input.okWide C.prog (w.forCall tape i) .any w.heap.size f i ∧
      ((s.pre enc C.prog fn conds apart (w.forCall tape i).memory i.args ∧ X (w.forCall tape i).memory i.args) ∧ sizedMet enc C.prog fn (OpenSpec.ofChange s) apart (w.forCall tape i).memory i.args) ∧ a.holds C.prog (lone (Frame.enter C.prog f i.args .normal) [] (w.forCall tape i)))
    (contract : ∀ (W : World) (base : Nat) (args : Array Value) (ds gs : List (DataW H)) (before : List MemPlace),
      (∀ (j : Nat) t v, fn.params[j]? = some t → args[j]? = some v → Value.okWide C.prog W .any base t v) →
      DataW.Whole enc C.prog fn.params.toList s.vars apart W args.toList ds gs before →
      conds.all (PathCond.test C.prog ⟨fn.params.toList, ds, s.plain.varTypes C.prog, gs⟩) = true →
      (DataW.weightsEach C.prog (fn.params.toList ++ s.plain.varTypes C.prog) (ds ++ gs)).all (· ≤ reachBytes) = true → X W args ∧ W.ShapedOpen C.prog →
      a.holds C.prog (lone (Frame.enter C.prog f args .normal) [] W) →
      Calls C.prog f args W fun e W' => ∃ v, e = .returned v ∧ s.post enc C.prog fn apart fresh handsOn again W args v W') :
    ReturnsInHanded a C os f .any (fun w args => (s.pre enc C.prog fn conds apart w args ∧ X w args) ∧ sizedMet enc C.prog fn (OpenSpec.ofChange s) apart w args) (s.post enc C.prog fn apart fresh handsOn again) := by
  refine returnsInHanded_of_calls own started noInit witness ?_
  intro w tape i _ hsh _ hok hpre hholds
  obtain ⟨_, _, _, fn', hfn', _, _, _, _, hval⟩ := hok
  have e : fn' = fn := Option.some.inj (hfn'.symm.trans hfn)
  subst e
  obtain ⟨⟨⟨ds, gs, before, hw, hc⟩, hx⟩, hz⟩ := hpre
  have hw' := DataW.Whole.of_heap (w' := w.forCall tape i) (by rfl) hw
  refine (contract (w.forCall tape i) w.heap.size i.args ds gs before hval hw' hc (hz.weights hw) ⟨hX _ _ _ (by rfl) hx, hsh⟩ hholds).mono fun e W' ⟨v, he, hp⟩ => ?_
  subst he
  exact ChangeSpec.post_blind hp
end Go.Proofs.YtfafjpfigphchaaDoor.X
namespace Go.Proofs.YtfafjpfigphchaaDoor.X
set_option linter.unusedVariables false
set_option linter.unusedSimpArgs false
set_option linter.unusedSectionVars false
open Go.ChangeShapes Go.WideShapes Go.ChangeAt Go.WideMaps Go.WideElems Go.RowKit Go.Proofs.YtfafjpfigphchaaDoorW.PrintWords
abbrev laid6 : List (String × DataW Unit) := [("math/bits.deBruijn32tab", Rows.laid_math_bits_deBruijn32tab), ("math/bits.deBruijn64tab", Rows.laid_math_bits_deBruijn64tab), ("internal/strconv.uint64pow10", Rows.laid_internal_strconv_uint64pow10), ("unicode/utf8.acceptRanges", Rows.laid_unicode_utf8_acceptRanges), ("loop.example/easel/impl.opForms", Rows.laid_loop_example_easel_impl_opForms), ("unicode/utf8.first", Rows.laid_unicode_utf8_first)]
abbrev laid2 : List (String × DataW Unit) := [("internal/strconv.uint64pow10", Rows.laid_internal_strconv_uint64pow10), ("loop.example/easel/impl.opForms", Rows.laid_loop_example_easel_impl_opForms)]
set_option maxRecDepth 100000 in
theorem door_met (os : Os) (args : Array Value) : laidMetH Tryd.prog laid6 ((World.laidAll Tryd.prog os laid6).forCall (fun _ _ => 0) ⟨#[], args, []⟩).memory := by
  rw [MakeChecks.laidMetH_plain _ _ _ (by kernel_rfl)]
  exact laidMet_laidAll _ (by kernel_rfl) (by kernel_rfl)
theorem gF : Tryd.prog.globalNamed "loop.example/easel/impl.opForms" = some 0 := by kernel_rfl
theorem tF : (Tryd.prog.globals[0]?).map (·.type) = some 65 := by kernel_rfl
theorem tP : (Tryd.prog.globals[2]?).map (·.type) = some 127 := by kernel_rfl
theorem blk_of_var {w : World} {name : String} {g : Nat} {cs : Array Value} (hg : Tryd.prog.globalNamed name = some g) (h : w.var? Tryd.prog name = some cs) : ∃ t fr, w.heap[g]? = some (.cells cs t fr) := by
  unfold World.var? at h
  rw [hg] at h
  simp only [Option.bind_some] at h
  split at h
  · rename_i cs' t fr hh
    obtain rfl := Option.some.inj h
    exact ⟨t, fr, hh⟩
  · cases h
variable {H : Type} {enc : TypeId × Value → H} {P : Program} {w : World} {base : Nat} {sp : Nat → Bool} {held : Bool}
/-- The cells of an array whose elements' cells are told by their data. -/
theorem cells_of_rows {fuel : Nat} {t e : TypeId} {n : Nat} {cs : List Value} {p : List MemPlace} {ds : List (DataW H)} (L : List (List Value))
    (ht : P.underlying t = some (.array n e)) (hct : P.cellsOf t = n * P.cellsOf e) (hL : ∀ (i : Nat) (l : List Value), L[i]? = some l → l.length = P.cellsOf e) (hn : L.length = n)
    (he : ∀ (i : Nat) (m : Nat) (d : DataW H) (l c : List Value) (q : List MemPlace), ds[i]? = some d → L[i]? = some l → DataW.trod enc P w base sp held m e c = some (d, q) → c = l)
    (h : DataW.trod enc P w base sp held fuel t cs = some (.agg ds, p)) : cs = L.flatten := by
  obtain ⟨xs, m, rfl, hx, hl, hlen, hf⟩ := DataW.trod_array ht h
  obtain ⟨hd, -⟩ := Prod.mk.inj hx
  have hds : ds = xs.map (·.1) := by injection hd
  have key : ∀ (i : Nat) (l : List Value), L[i]? = some l → (cs.drop (i * P.cellsOf e)).take (P.cellsOf e) = l := by
    intro i l hi
    have hin : i < n := by have := (List.getElem?_eq_some_iff.1 hi).1; omega
    have h1 := hf i hin
    have hix : i < xs.length := by omega
    rw [List.getElem?_eq_getElem hix] at h1
    refine he i m (xs[i]).1 l _ (xs[i]).2 ?_ hi h1
    rw [hds, List.getElem?_map, List.getElem?_eq_getElem hix]
    rfl
  have gen : ∀ (L : List (List Value)) (cs : List Value), (∀ (i : Nat) (l : List Value), L[i]? = some l → (cs.drop (i * P.cellsOf e)).take (P.cellsOf e) = l) → cs.length = L.length * P.cellsOf e → cs = L.flatten := by
    intro L
    induction L with
    | nil => intro cs _ h; simp at h; simp [h]
    | cons a L ih =>
      intro cs hk hlen
      have h0 := hk 0 a rfl
      rw [Nat.zero_mul, List.drop_zero] at h0
      rw [List.length_cons, Nat.add_mul, Nat.one_mul] at hlen
      have h1 := ih (cs.drop (P.cellsOf e)) (fun i l hi => by
        rw [List.drop_drop, show P.cellsOf e + i * P.cellsOf e = (i + 1) * P.cellsOf e by rw [Nat.add_mul]; omega]
        exact hk (i + 1) l (by simpa using hi)) (by rw [List.length_drop]; omega)
      rw [List.flatten_cons, ← h1, ← h0, List.take_append_drop]
  exact gen L cs key (by rw [hl, hct, hn])
set_option maxRecDepth 100000 in
theorem form_cells {m : Nat} {c : List Value} {s : List UInt8} {n : Int} {q : List MemPlace} (h : DataW.trod enc Tryd.prog w base sp held m 64 c = some (.agg [.lit (.string s), .lit (.int .i64 n)], q)) : c = [.string ⟨s.toArray⟩, .int .i64 n] := by
  obtain ⟨y0, y1, k, hx, hl, h0, h1⟩ := trod_struct2 Tryd.underlying64 h
  have hx := (Prod.mk.inj hx).1
  injection hx with hx
  injection hx with e0 hx
  injection hx with e1 _
  obtain ⟨s', hc0, rfl, _⟩ := DataW.trod_string Tryd.underlying9 h0
  obtain ⟨n', hc1, rfl, _⟩ := DataW.trod_int Tryd.underlying3 h1
  injection e0 with e0; injection e0 with e0
  injection e1 with e1; injection e1 with _ e1
  have hl2 : c.length = 2 := hl.trans (by kernel_rfl)
  match c, hl2 with
  | [a, b], _ =>
    have ha : [a] = [Value.string s'] := hc0
    have hb : [b] = [Value.int .i64 n'] := hc1
    cases ha; cases hb
    subst e1
    rw [e0]
set_option maxRecDepth 100000 in
theorem glob_of {W : World} (hh : laidMetH Tryd.prog laid6 W ∧ W.ShapedOpen Tryd.prog) : Glob W := by
  obtain ⟨h, hsh⟩ := hh
  have h := laidMetH.filter (fun x => x.1 == "internal/strconv.uint64pow10" || x.1 == "loop.example/easel/impl.opForms") h
  rw [show laid6.filter (fun x => x.1 == "internal/strconv.uint64pow10" || x.1 == "loop.example/easel/impl.opForms") = laid2 from rfl] at h
  rw [MakeChecks.laidMetH_plain _ _ _ (by kernel_rfl)] at h
  have hmax := cell_of_shapedOpen_int (P := Tryd.prog) (g := 1) (t := 3) (zero := #[.int .i64 0]) hsh (of_decide_eq_true (by kernel_rfl)) (by kernel_rfl) rfl (by kernel_rfl) (by kernel_rfl) Tryd.underlying3
  obtain ⟨ps, ⟨g2, t2, cs2, f2, p2, q2, hg2, ht2, hv2, hd2, ⟨g3, t3, cs3, f3, p3, q3, hg3, ht3, hv3, hd3, _⟩, _⟩, _, _⟩ := h
  obtain rfl := Option.some.inj (gPow.symm.trans hg2)
  obtain rfl := Option.some.inj (gF.symm.trans hg3)
  obtain rfl := Option.some.inj (tP.symm.trans ht2)
  obtain rfl := Option.some.inj (tF.symm.trans ht3)
  have e2 := Lib.cells_of_tab (zs := Lib.pow10Tab) (k := .u64) Tryd.underlying127 Tryd.underlying112 (by kernel_rfl) (by kernel_rfl) hd2
  obtain ⟨t, fr, hh⟩ := blk_of_var gF hv3
  obtain ⟨t', fr', hh'⟩ := blk_of_var gPow hv2
  have e3 := cells_of_rows [[.string ⟨#[]⟩, .int .i64 0], [.string ⟨#[99, 114, 111, 112]⟩, .int .i64 4], [.string ⟨#[102, 108, 105, 112, 120]⟩, .int .i64 0], [.string ⟨#[102, 108, 105, 112, 121]⟩, .int .i64 0], [.string ⟨#[116, 117, 114, 110]⟩, .int .i64 0], [.string ⟨#[103, 114, 97, 121]⟩, .int .i64 0], [.string ⟨#[98, 108, 117, 114]⟩, .int .i64 0], [.string ⟨#[115, 105, 122, 101]⟩, .int .i64 2], [.string ⟨#[102, 108, 97, 116]⟩, .int .i64 3]] Tryd.underlying65 (by kernel_rfl)
    (fun i l hi => by
      have hm := List.mem_of_getElem? hi
      have : l.length = 2 := by simp only [List.mem_cons, List.not_mem_nil, or_false] at hm; rcases hm with rfl | rfl | rfl | rfl | rfl | rfl | rfl | rfl | rfl <;> rfl
      exact this.trans (by kernel_rfl)) rfl
    (fun i m d l c q hd hl hc => by
      match i, hd, hl with
      | 0, hd, hl => cases hd; cases hl; exact form_cells hc
      | 1, hd, hl => cases hd; cases hl; exact form_cells hc
      | 2, hd, hl => cases hd; cases hl; exact form_cells hc
      | 3, hd, hl => cases hd; cases hl; exact form_cells hc
      | 4, hd, hl => cases hd; cases hl; exact form_cells hc
      | 5, hd, hl => cases hd; cases hl; exact form_cells hc
      | 6, hd, hl => cases hd; cases hl; exact form_cells hc
      | 7, hd, hl => cases hd; cases hl; exact form_cells hc
      | 8, hd, hl => cases hd; cases hl; exact form_cells hc
      | _ + 9, hd, _ => cases hd) hd3
  refine ⟨⟨t, fr, ?_⟩, ⟨t', fr', ?_⟩, hmax⟩
  · rw [hh]; congr 2; rw [← Array.toArray_toList (xs := cs3), e3]; rfl
  · rw [hh']; congr 2; rw [← e2]
theorem vars1 {n1 : String} : ∀ {gs : List (DataW H)} {q : List MemPlace}, DataW.TrodVars enc Tryd.prog w sp [n1] gs q → ∃ g1, gs = [g1]
  | [], _, h => h.elim
  | [a], _, _ => ⟨a, rfl⟩
  | _ :: _ :: _, _, h => by obtain ⟨_, _, _, _, _, _, _, _, _, _, h, _⟩ := h; exact h.elim
end Go.Proofs.YtfafjpfigphchaaDoor.X
