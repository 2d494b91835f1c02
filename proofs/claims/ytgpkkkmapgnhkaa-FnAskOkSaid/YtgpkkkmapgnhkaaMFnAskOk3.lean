/- Lemmas and contracts for the law FnAskOk, part 3: of the program's functions, and over data alone. No condition. -/
import Derived.Test.YtgpkkkmapgnhkaaMFnAskOk2
import Derived.Test.YtgpkkkmapgnhkaaMFnAskOk1
namespace Go.Proofs.Ytgpkkkmapgnhkaa.X
open Go.RowKit Go.Proofs.YtgpkkkmapgnhkaaW.PrintWords Go.Proofs.YtgpkkkmapgnhkaaW.PrintLast Go.Proofs.YtgpkkkmapgnhkaaW.PrintMore
attribute [local go_sem] max2_int min2_int max_two min_two max_three min_three max_four min_four   -- for this text's walks alone
set_option linter.unusedVariables false
set_option linter.unusedSimpArgs false

open Go.Proofs.YtgpkkkmapgnhkaaW.PrintWords.Aside0 renaming mk → yaa
open Go.Proofs.Ytgpkkkmapgnhkaa.X.IsS143 renaming alloc → yab, drewN → yac, set_1 → yad, far → yae, drew → yaf, apart → yaw, ge → yaz, below → ybi
open Go.Proofs.YtgpkkkmapgnhkaaW.PrintWords.KeepBut renaming set_ → yag, trans → yar, blk → yay, of_below → ybf
open Go.Proofs.YtgpkkkmapgnhkaaW.PrintWords renaming blk_alloc → yah, below_set → yai, blk_drewN → yaj, blk_drew → yak, keep_drewN → yal, keep_alloc → yam, pw_below_drewN → yan, keep_drew → yao, keep_far → yas, below_drew1 → yau, below_alloc → yav, blk_frozen → yba, blk_cell → ybb, gate_callee → ybd, keep_size → ybh
open Go.Proofs.YtgpkkkmapgnhkaaW.PrintWords.Kd renaming R_alloc → yap, R_drewN → yaq, R_drew → yat, R_mono → yax, R_keep → ybc, R_far → ybe, R_below → ybj, R_types → ybk
open Go.Proofs.Ytgpkkkmapgnhkaa.X renaming IsS143 → ybg

/-! ### spec_l20Ask: function 75 -/
abbrev q75_0 : Array Bool := #[false, false, false, false, false, false, false, false]
abbrev q75_1 : Array Bool := #[true, false, false, false, false, false, false, false]
abbrev q75_2 : Array Bool := #[true, false, true, false, false, false, false, false]
abbrev q75_3 : Array Bool := #[true, true, true, false, false, false, false, false]
abbrev q75_4 : Array Bool := #[true, true, true, true, false, false, false, false]
abbrev q75_5 : Array Bool := #[true, true, true, true, true, false, false, false]
abbrev q75_6 : Array Bool := #[true, true, true, true, true, true, false, false]
abbrev q75_7 : Array Bool := #[true, true, true, true, true, true, true, false]
abbrev q75_8 : Array Bool := #[true, true, true, true, true, true, true, true]
def spec_l20Ask.f (k : Nat) (s0_0 : List Int) (s0_1 : Int) (a1 : Int) : Option ((List (S146)) × ByteArray × Int × Int) := (spec_l20Ops.f k s0_0 s0_1 0).bind fun bt102 => ((spec_l20Path.f k s0_0 bt102.2).bind fun bt106 => ((spec_l20Rd_pick.f k s0_0 bt106.2 80).bind fun bt108 => ((some (([9999, bt108.1] : List Int) : List Int)).bind fun y110 => ((spec_l20Rd_pick.f k s0_0 bt108.2 2).bind fun bt113 => (if 0 ≤ bt113.1 then (if bt113.1 < (y110.length : Int) then ((spec_l20Rd_odd.f k s0_0 bt113.2 a1).bind fun bt117 => (if bt117.1 = true then ((spec_l20Rd_pick.f k s0_0 bt117.2 3).bind fun bt119 => (if bt119.1 = 0 then ((some (([(⟨#[]⟩ : ByteArray), (⟨#[97, 98, 99, 100, 101, 102, 103]⟩ : ByteArray), (⟨#[65]⟩ : ByteArray), (⟨#[97, 32, 98]⟩ : ByteArray)] : List ByteArray) : List ByteArray)).bind fun y121 => ((spec_l20Rd_pick.f k s0_0 bt119.2 4).bind fun bt124 => (if 0 ≤ bt124.1 then (if bt124.1 < (y121.length : Int) then (some (bt102.1, rdOf ByteArray.empty y121 bt124.1, rd y110 bt113.1, bt124.2)) else (none)) else (none)))) else (if bt119.1 = 1 then ((some (([(-1), 10000] : List Int) : List Int)).bind fun y127 => ((spec_l20Rd_pick.f k s0_0 bt119.2 2).bind fun bt130 => (if 0 ≤ bt130.1 then (if bt130.1 < (y127.length : Int) then (some (bt102.1, bt106.1, rd y127 bt130.1, bt130.2)) else (none)) else (none)))) else ((spec_l20Op.f k s0_0 bt119.2 1).bind fun bt133 => (if bt102.1.length < 3518437208883 then (some ((bt102.1 ++ [(⟨bt133.1, bt133.2.1, bt133.2.2.1, bt133.2.2.2.1, bt133.2.2.2.2.1⟩ : S146)]), bt106.1, rd y110 bt113.1, bt133.2.2.2.2.2)) else (none)))))) else (some (bt102.1, bt106.1, rd y110 bt113.1, bt117.2)))) else (none)) else (none))))))
theorem spec_l20Ask.mono : ∀ a0 a1 a2 k, LeO (spec_l20Ask.f k a0 a1 a2) (spec_l20Ask.f (k + 1) a0 a1 a2) := by
 intro a0 a1 a2 k
 unfold spec_l20Ask.f
 repeat' first
   | (with_reducible exact spec_l20Op.mono _ _ _ _)
   | (with_reducible exact spec_l20Ops.mono _ _ _ _)
   | (with_reducible exact spec_l20Path.mono _ _ _)
   | (with_reducible exact spec_l20Rd_odd.mono _ _ _ _)
   | (with_reducible exact spec_l20Rd_pick.mono _ _ _ _)
   | (with_reducible exact LeO.refl _)
   | (with_reducible exact LeO.none _)
   | (with_reducible refine LeO.ite ?_ ?_)
   | (with_reducible refine LeO.bind ?_ (fun _ => ?_))
   | exact spec_l20Op.mono _ _ _ _
   | exact spec_l20Ops.mono _ _ _ _
   | exact spec_l20Path.mono _ _ _
   | exact spec_l20Rd_odd.mono _ _ _ _
   | exact spec_l20Rd_pick.mono _ _ _ _
   | exact LeO.none _
   | refine LeO.ite ?_ ?_
   | refine LeO.bind ?_ (fun _ => ?_)
def spec_l20Ask.T4 : Bool × List (List Nat × List Nat) := (true, [([], []), ([0], [0]), ([], []), ([2], [2]), ([3], [3]), ([1, 4, 3], [1, 4]), ([0, 1, 2, 3, 4, 5], []), ([6, 5, 5, 0, 1, 2, 3, 4, 5], [5, 6])])
def spec_l20Ask.B4 : List Nat := [0, 1, 0, 4, 12, 31, 63, 127]
theorem spec_l20Ask.tab4 : rtab .any (opsOf Try.f75 4) = spec_l20Ask.T4 := by kernel_rfl
theorem spec_l20Ask.bits4 : waitsOk spec_l20Ask.T4.2 spec_l20Ask.B4 = true := by kernel_rfl
set_option maxHeartbeats 8000000 in
set_option maxRecDepth 100000 in
theorem spec_l20Ask.calls (k : Nat) (g : Nat) (s0_0 : List Int) (s0_1 : Int) (a1 : Int) (r1 : List (S146)) (r2 : ByteArray) (r3 : Int) (r4 : Int) (w0 w : World) (hI : ybg w0 w g s0_0 s0_1) (hB : Below w0.heap.size w0 w) (h : spec_l20Ask.f k s0_0 s0_1 a1 = some (r1, r2, r3, r4)) :
  Calls Try.prog 75 #[.pointer (some ⟨g, 0, none⟩), .int .i64 a1] w fun e w' => ∃ v0_ : Value, e = .returned (.agg #[v0_, .string r2, .int .i64 r3]) ∧ Kd.R k146 146 w' w.heap.size (fun _ => True) v0_ r1 ∧ ybg w0 w' g s0_0 r4 ∧ Below w0.heap.size w0 w' ∧ KeepBut w w' g none := by
 have hu42 := Try.underlying42
 have HI0 := yaa hI
 have HK := yaa (KeepBut.refl w g none)
 have HL := yaa hB.size
 clear hI
 have HW0 := yaa hB.size
 have HB := yaa hB
 clear hB
 have H : ((spec_l20Ops.f k s0_0 s0_1 0).bind fun bt102 => ((spec_l20Path.f k s0_0 bt102.2).bind fun bt106 => ((spec_l20Rd_pick.f k s0_0 bt106.2 80).bind fun bt108 => ((some (([9999, bt108.1] : List Int) : List Int)).bind fun y110 => ((spec_l20Rd_pick.f k s0_0 bt108.2 2).bind fun bt113 => (if 0 ≤ bt113.1 then (if bt113.1 < (y110.length : Int) then ((spec_l20Rd_odd.f k s0_0 bt113.2 a1).bind fun bt117 => (if bt117.1 = true then ((spec_l20Rd_pick.f k s0_0 bt117.2 3).bind fun bt119 => (if bt119.1 = 0 then ((some (([(⟨#[]⟩ : ByteArray), (⟨#[97, 98, 99, 100, 101, 102, 103]⟩ : ByteArray), (⟨#[65]⟩ : ByteArray), (⟨#[97, 32, 98]⟩ : ByteArray)] : List ByteArray) : List ByteArray)).bind fun y121 => ((spec_l20Rd_pick.f k s0_0 bt119.2 4).bind fun bt124 => (if 0 ≤ bt124.1 then (if bt124.1 < (y121.length : Int) then (some (bt102.1, rdOf ByteArray.empty y121 bt124.1, rd y110 bt113.1, bt124.2)) else (none)) else (none)))) else (if bt119.1 = 1 then ((some (([(-1), 10000] : List Int) : List Int)).bind fun y127 => ((spec_l20Rd_pick.f k s0_0 bt119.2 2).bind fun bt130 => (if 0 ≤ bt130.1 then (if bt130.1 < (y127.length : Int) then (some (bt102.1, bt106.1, rd y127 bt130.1, bt130.2)) else (none)) else (none)))) else ((spec_l20Op.f k s0_0 bt119.2 1).bind fun bt133 => (if bt102.1.length < 3518437208883 then (some ((bt102.1 ++ [(⟨bt133.1, bt133.2.1, bt133.2.2.1, bt133.2.2.2.1, bt133.2.2.2.2.1⟩ : S146)]), bt106.1, rd y110 bt113.1, bt133.2.2.2.2.2)) else (none)))))) else (some (bt102.1, bt106.1, rd y110 bt113.1, bt117.2)))) else (none)) else (none))))))) = some (r1, r2, r3, r4) := h
 clear h
 replace H := Option.bind_eq_some_iff.mp H
 obtain ⟨⟨t102, t105⟩, A30, H⟩ := H
 replace H : ((spec_l20Path.f k s0_0 t105).bind fun bt106 => ((spec_l20Rd_pick.f k s0_0 bt106.2 80).bind fun bt108 => ((some (([9999, bt108.1] : List Int) : List Int)).bind fun y110 => ((spec_l20Rd_pick.f k s0_0 bt108.2 2).bind fun bt113 => (if 0 ≤ bt113.1 then (if bt113.1 < (y110.length : Int) then ((spec_l20Rd_odd.f k s0_0 bt113.2 a1).bind fun bt117 => (if bt117.1 = true then ((spec_l20Rd_pick.f k s0_0 bt117.2 3).bind fun bt119 => (if bt119.1 = 0 then ((some (([(⟨#[]⟩ : ByteArray), (⟨#[97, 98, 99, 100, 101, 102, 103]⟩ : ByteArray), (⟨#[65]⟩ : ByteArray), (⟨#[97, 32, 98]⟩ : ByteArray)] : List ByteArray) : List ByteArray)).bind fun y121 => ((spec_l20Rd_pick.f k s0_0 bt119.2 4).bind fun bt124 => (if 0 ≤ bt124.1 then (if bt124.1 < (y121.length : Int) then (some (t102, rdOf ByteArray.empty y121 bt124.1, rd y110 bt113.1, bt124.2)) else (none)) else (none)))) else (if bt119.1 = 1 then ((some (([(-1), 10000] : List Int) : List Int)).bind fun y127 => ((spec_l20Rd_pick.f k s0_0 bt119.2 2).bind fun bt130 => (if 0 ≤ bt130.1 then (if bt130.1 < (y127.length : Int) then (some (t102, bt106.1, rd y127 bt130.1, bt130.2)) else (none)) else (none)))) else ((spec_l20Op.f k s0_0 bt119.2 1).bind fun bt133 => (if t102.length < 3518437208883 then (some ((t102 ++ [(⟨bt133.1, bt133.2.1, bt133.2.2.1, bt133.2.2.2.1, bt133.2.2.2.2.1⟩ : S146)]), bt106.1, rd y110 bt113.1, bt133.2.2.2.2.2)) else (none)))))) else (some (t102, bt106.1, rd y110 bt113.1, bt117.2)))) else (none)) else (none)))))) = some (r1, r2, r3, r4) := H
 have A3 := yaa A30
 clear A30
 replace H := Option.bind_eq_some_iff.mp H
 obtain ⟨⟨t106, t107⟩, A40, H⟩ := H
 replace H : ((spec_l20Rd_pick.f k s0_0 t107 80).bind fun bt108 => ((some (([9999, bt108.1] : List Int) : List Int)).bind fun y110 => ((spec_l20Rd_pick.f k s0_0 bt108.2 2).bind fun bt113 => (if 0 ≤ bt113.1 then (if bt113.1 < (y110.length : Int) then ((spec_l20Rd_odd.f k s0_0 bt113.2 a1).bind fun bt117 => (if bt117.1 = true then ((spec_l20Rd_pick.f k s0_0 bt117.2 3).bind fun bt119 => (if bt119.1 = 0 then ((some (([(⟨#[]⟩ : ByteArray), (⟨#[97, 98, 99, 100, 101, 102, 103]⟩ : ByteArray), (⟨#[65]⟩ : ByteArray), (⟨#[97, 32, 98]⟩ : ByteArray)] : List ByteArray) : List ByteArray)).bind fun y121 => ((spec_l20Rd_pick.f k s0_0 bt119.2 4).bind fun bt124 => (if 0 ≤ bt124.1 then (if bt124.1 < (y121.length : Int) then (some (t102, rdOf ByteArray.empty y121 bt124.1, rd y110 bt113.1, bt124.2)) else (none)) else (none)))) else (if bt119.1 = 1 then ((some (([(-1), 10000] : List Int) : List Int)).bind fun y127 => ((spec_l20Rd_pick.f k s0_0 bt119.2 2).bind fun bt130 => (if 0 ≤ bt130.1 then (if bt130.1 < (y127.length : Int) then (some (t102, t106, rd y127 bt130.1, bt130.2)) else (none)) else (none)))) else ((spec_l20Op.f k s0_0 bt119.2 1).bind fun bt133 => (if t102.length < 3518437208883 then (some ((t102 ++ [(⟨bt133.1, bt133.2.1, bt133.2.2.1, bt133.2.2.2.1, bt133.2.2.2.2.1⟩ : S146)]), t106, rd y110 bt113.1, bt133.2.2.2.2.2)) else (none)))))) else (some (t102, t106, rd y110 bt113.1, bt117.2)))) else (none)) else (none))))) = some (r1, r2, r3, r4) := H
 have A4 := yaa A40
 clear A40
 replace H := Option.bind_eq_some_iff.mp H
 obtain ⟨⟨t108, t109⟩, A50, H⟩ := H
 replace H : ((some (([9999, t108] : List Int) : List Int)).bind fun y110 => ((spec_l20Rd_pick.f k s0_0 t109 2).bind fun bt113 => (if 0 ≤ bt113.1 then (if bt113.1 < (y110.length : Int) then ((spec_l20Rd_odd.f k s0_0 bt113.2 a1).bind fun bt117 => (if bt117.1 = true then ((spec_l20Rd_pick.f k s0_0 bt117.2 3).bind fun bt119 => (if bt119.1 = 0 then ((some (([(⟨#[]⟩ : ByteArray), (⟨#[97, 98, 99, 100, 101, 102, 103]⟩ : ByteArray), (⟨#[65]⟩ : ByteArray), (⟨#[97, 32, 98]⟩ : ByteArray)] : List ByteArray) : List ByteArray)).bind fun y121 => ((spec_l20Rd_pick.f k s0_0 bt119.2 4).bind fun bt124 => (if 0 ≤ bt124.1 then (if bt124.1 < (y121.length : Int) then (some (t102, rdOf ByteArray.empty y121 bt124.1, rd y110 bt113.1, bt124.2)) else (none)) else (none)))) else (if bt119.1 = 1 then ((some (([(-1), 10000] : List Int) : List Int)).bind fun y127 => ((spec_l20Rd_pick.f k s0_0 bt119.2 2).bind fun bt130 => (if 0 ≤ bt130.1 then (if bt130.1 < (y127.length : Int) then (some (t102, t106, rd y127 bt130.1, bt130.2)) else (none)) else (none)))) else ((spec_l20Op.f k s0_0 bt119.2 1).bind fun bt133 => (if t102.length < 3518437208883 then (some ((t102 ++ [(⟨bt133.1, bt133.2.1, bt133.2.2.1, bt133.2.2.2.1, bt133.2.2.2.2.1⟩ : S146)]), t106, rd y110 bt113.1, bt133.2.2.2.2.2)) else (none)))))) else (some (t102, t106, rd y110 bt113.1, bt117.2)))) else (none)) else (none)))) = some (r1, r2, r3, r4) := H
 have A5 := yaa A50
 clear A50
 obtain ⟨y110, hy110⟩ : ∃ y_ : List Int, y_ = (([9999, t108] : List Int)) := ⟨_, rfl⟩
 replace H : ((spec_l20Rd_pick.f k s0_0 t109 2).bind fun bt113 => (if 0 ≤ bt113.1 then (if bt113.1 < (y110.length : Int) then ((spec_l20Rd_odd.f k s0_0 bt113.2 a1).bind fun bt117 => (if bt117.1 = true then ((spec_l20Rd_pick.f k s0_0 bt117.2 3).bind fun bt119 => (if bt119.1 = 0 then ((some (([(⟨#[]⟩ : ByteArray), (⟨#[97, 98, 99, 100, 101, 102, 103]⟩ : ByteArray), (⟨#[65]⟩ : ByteArray), (⟨#[97, 32, 98]⟩ : ByteArray)] : List ByteArray) : List ByteArray)).bind fun y121 => ((spec_l20Rd_pick.f k s0_0 bt119.2 4).bind fun bt124 => (if 0 ≤ bt124.1 then (if bt124.1 < (y121.length : Int) then (some (t102, rdOf ByteArray.empty y121 bt124.1, rd y110 bt113.1, bt124.2)) else (none)) else (none)))) else (if bt119.1 = 1 then ((some (([(-1), 10000] : List Int) : List Int)).bind fun y127 => ((spec_l20Rd_pick.f k s0_0 bt119.2 2).bind fun bt130 => (if 0 ≤ bt130.1 then (if bt130.1 < (y127.length : Int) then (some (t102, t106, rd y127 bt130.1, bt130.2)) else (none)) else (none)))) else ((spec_l20Op.f k s0_0 bt119.2 1).bind fun bt133 => (if t102.length < 3518437208883 then (some ((t102 ++ [(⟨bt133.1, bt133.2.1, bt133.2.2.1, bt133.2.2.2.1, bt133.2.2.2.2.1⟩ : S146)]), t106, rd y110 bt113.1, bt133.2.2.2.2.2)) else (none)))))) else (some (t102, t106, rd y110 bt113.1, bt117.2)))) else (none)) else (none))) = some (r1, r2, r3, r4) := by first | (rw [hy110]; with_reducible exact H) | (have H2_ := (Option.bind_some _ _).symm.trans H; rw [hy110]; with_reducible exact H2_) | (have H2_ := (Option.bind_some _ _).symm.trans H; with_reducible exact H2_) | with_reducible exact H | (rw [hy110]; exact H) | exact H
 have Ny110 := yaa hy110
 clear hy110
 replace H := Option.bind_eq_some_iff.mp H
 obtain ⟨⟨t113, t114⟩, A60, H⟩ := H
 replace H : (if 0 ≤ t113 then (if t113 < (y110.length : Int) then ((spec_l20Rd_odd.f k s0_0 t114 a1).bind fun bt117 => (if bt117.1 = true then ((spec_l20Rd_pick.f k s0_0 bt117.2 3).bind fun bt119 => (if bt119.1 = 0 then ((some (([(⟨#[]⟩ : ByteArray), (⟨#[97, 98, 99, 100, 101, 102, 103]⟩ : ByteArray), (⟨#[65]⟩ : ByteArray), (⟨#[97, 32, 98]⟩ : ByteArray)] : List ByteArray) : List ByteArray)).bind fun y121 => ((spec_l20Rd_pick.f k s0_0 bt119.2 4).bind fun bt124 => (if 0 ≤ bt124.1 then (if bt124.1 < (y121.length : Int) then (some (t102, rdOf ByteArray.empty y121 bt124.1, rd y110 t113, bt124.2)) else (none)) else (none)))) else (if bt119.1 = 1 then ((some (([(-1), 10000] : List Int) : List Int)).bind fun y127 => ((spec_l20Rd_pick.f k s0_0 bt119.2 2).bind fun bt130 => (if 0 ≤ bt130.1 then (if bt130.1 < (y127.length : Int) then (some (t102, t106, rd y127 bt130.1, bt130.2)) else (none)) else (none)))) else ((spec_l20Op.f k s0_0 bt119.2 1).bind fun bt133 => (if t102.length < 3518437208883 then (some ((t102 ++ [(⟨bt133.1, bt133.2.1, bt133.2.2.1, bt133.2.2.2.1, bt133.2.2.2.2.1⟩ : S146)]), t106, rd y110 t113, bt133.2.2.2.2.2)) else (none)))))) else (some (t102, t106, rd y110 t113, bt117.2)))) else (none)) else (none)) = some (r1, r2, r3, r4) := H
 have A6 := yaa A60
 clear A60
 by_cases c7 : 0 ≤ t113
 ·
  rw [if_pos c7] at H
  have c7b0 : decide (0 ≤ t113) = true := decide_eq_true c7
  clear c7
  by_cases c8 : t113 < (y110.length : Int)
  ·
   rw [if_pos c8] at H
   have c8b0 : decide (t113 < (y110.length : Int)) = true := decide_eq_true c8
   clear c8
   replace H := Option.bind_eq_some_iff.mp H
   obtain ⟨⟨t117, t118⟩, A90, H⟩ := H
   replace H : (if t117 = true then ((spec_l20Rd_pick.f k s0_0 t118 3).bind fun bt119 => (if bt119.1 = 0 then ((some (([(⟨#[]⟩ : ByteArray), (⟨#[97, 98, 99, 100, 101, 102, 103]⟩ : ByteArray), (⟨#[65]⟩ : ByteArray), (⟨#[97, 32, 98]⟩ : ByteArray)] : List ByteArray) : List ByteArray)).bind fun y121 => ((spec_l20Rd_pick.f k s0_0 bt119.2 4).bind fun bt124 => (if 0 ≤ bt124.1 then (if bt124.1 < (y121.length : Int) then (some (t102, rdOf ByteArray.empty y121 bt124.1, rd y110 t113, bt124.2)) else (none)) else (none)))) else (if bt119.1 = 1 then ((some (([(-1), 10000] : List Int) : List Int)).bind fun y127 => ((spec_l20Rd_pick.f k s0_0 bt119.2 2).bind fun bt130 => (if 0 ≤ bt130.1 then (if bt130.1 < (y127.length : Int) then (some (t102, t106, rd y127 bt130.1, bt130.2)) else (none)) else (none)))) else ((spec_l20Op.f k s0_0 bt119.2 1).bind fun bt133 => (if t102.length < 3518437208883 then (some ((t102 ++ [(⟨bt133.1, bt133.2.1, bt133.2.2.1, bt133.2.2.2.1, bt133.2.2.2.2.1⟩ : S146)]), t106, rd y110 t113, bt133.2.2.2.2.2)) else (none)))))) else (some (t102, t106, rd y110 t113, t118))) = some (r1, r2, r3, r4) := H
   have A9 := yaa A90
   clear A90
   by_cases c10 : t117 = true
   ·
    subst c10
    have H1 : ((spec_l20Rd_pick.f k s0_0 t118 3).bind fun bt119 => (if bt119.1 = 0 then ((some (([(⟨#[]⟩ : ByteArray), (⟨#[97, 98, 99, 100, 101, 102, 103]⟩ : ByteArray), (⟨#[65]⟩ : ByteArray), (⟨#[97, 32, 98]⟩ : ByteArray)] : List ByteArray) : List ByteArray)).bind fun y121 => ((spec_l20Rd_pick.f k s0_0 bt119.2 4).bind fun bt124 => (if 0 ≤ bt124.1 then (if bt124.1 < (y121.length : Int) then (some (t102, rdOf ByteArray.empty y121 bt124.1, rd y110 t113, bt124.2)) else (none)) else (none)))) else (if bt119.1 = 1 then ((some (([(-1), 10000] : List Int) : List Int)).bind fun y127 => ((spec_l20Rd_pick.f k s0_0 bt119.2 2).bind fun bt130 => (if 0 ≤ bt130.1 then (if bt130.1 < (y127.length : Int) then (some (t102, t106, rd y127 bt130.1, bt130.2)) else (none)) else (none)))) else ((spec_l20Op.f k s0_0 bt119.2 1).bind fun bt133 => (if t102.length < 3518437208883 then (some ((t102 ++ [(⟨bt133.1, bt133.2.1, bt133.2.2.1, bt133.2.2.2.1, bt133.2.2.2.2.1⟩ : S146)]), t106, rd y110 t113, bt133.2.2.2.2.2)) else (none)))))) = some (r1, r2, r3, r4) := by rw [if_pos rfl] at H; exact H
    clear H
    have H := H1
    clear H1
    replace H := Option.bind_eq_some_iff.mp H
    obtain ⟨⟨t119, t120⟩, A110, H⟩ := H
    replace H : (if t119 = 0 then ((some (([(⟨#[]⟩ : ByteArray), (⟨#[97, 98, 99, 100, 101, 102, 103]⟩ : ByteArray), (⟨#[65]⟩ : ByteArray), (⟨#[97, 32, 98]⟩ : ByteArray)] : List ByteArray) : List ByteArray)).bind fun y121 => ((spec_l20Rd_pick.f k s0_0 t120 4).bind fun bt124 => (if 0 ≤ bt124.1 then (if bt124.1 < (y121.length : Int) then (some (t102, rdOf ByteArray.empty y121 bt124.1, rd y110 t113, bt124.2)) else (none)) else (none)))) else (if t119 = 1 then ((some (([(-1), 10000] : List Int) : List Int)).bind fun y127 => ((spec_l20Rd_pick.f k s0_0 t120 2).bind fun bt130 => (if 0 ≤ bt130.1 then (if bt130.1 < (y127.length : Int) then (some (t102, t106, rd y127 bt130.1, bt130.2)) else (none)) else (none)))) else ((spec_l20Op.f k s0_0 t120 1).bind fun bt133 => (if t102.length < 3518437208883 then (some ((t102 ++ [(⟨bt133.1, bt133.2.1, bt133.2.2.1, bt133.2.2.2.1, bt133.2.2.2.2.1⟩ : S146)]), t106, rd y110 t113, bt133.2.2.2.2.2)) else (none))))) = some (r1, r2, r3, r4) := H
    have A11 := yaa A110
    clear A110
    by_cases c12 : t119 = 0
    ·
     rw [if_pos c12] at H
     have c12b0 : (t119 == 0) = true := beq_iff_eq.mpr c12
     have c12b1 : (t119 != 0) = false := bne_eq_false_iff_eq.mpr c12
     clear c12
     obtain ⟨y121, hy121⟩ : ∃ y_ : List ByteArray, y_ = (([(⟨#[]⟩ : ByteArray), (⟨#[97, 98, 99, 100, 101, 102, 103]⟩ : ByteArray), (⟨#[65]⟩ : ByteArray), (⟨#[97, 32, 98]⟩ : ByteArray)] : List ByteArray)) := ⟨_, rfl⟩
     replace H : ((spec_l20Rd_pick.f k s0_0 t120 4).bind fun bt124 => (if 0 ≤ bt124.1 then (if bt124.1 < (y121.length : Int) then (some (t102, rdOf ByteArray.empty y121 bt124.1, rd y110 t113, bt124.2)) else (none)) else (none))) = some (r1, r2, r3, r4) := by first | (rw [hy121]; with_reducible exact H) | (have H2_ := (Option.bind_some _ _).symm.trans H; rw [hy121]; with_reducible exact H2_) | (have H2_ := (Option.bind_some _ _).symm.trans H; with_reducible exact H2_) | with_reducible exact H | (rw [hy121]; exact H) | exact H
     have Ny121 := yaa hy121
     clear hy121
     replace H := Option.bind_eq_some_iff.mp H
     obtain ⟨⟨t124, t125⟩, A130, H⟩ := H
     replace H : (if 0 ≤ t124 then (if t124 < (y121.length : Int) then (some (t102, rdOf ByteArray.empty y121 t124, rd y110 t113, t125)) else (none)) else (none)) = some (r1, r2, r3, r4) := H
     have A13 := yaa A130
     clear A130
     by_cases c14 : 0 ≤ t124
     ·
      rw [if_pos c14] at H
      have c14b0 : decide (0 ≤ t124) = true := decide_eq_true c14
      clear c14
      by_cases c15 : t124 < (y121.length : Int)
      ·
       rw [if_pos c15] at H
       have c15b0 : decide (t124 < (y121.length : Int)) = true := decide_eq_true c15
       clear c15
       simp only [Option.some.injEq, Prod.mk.injEq] at H
       obtain ⟨rfl, rfl, rfl, rfl⟩ := H
       go_enter Try.func75, Try.ntmps75
       go_wp2_with (first | ((with_reducible refine gate_dst (N := 4) rfl ?_); refine box_event ?hg (N := 4) ?hd (cs := #[.slice none 0 0, .string (⟨#[]⟩ : ByteArray), .int .i64 0]) (t := 42) ?hr ?_; (case hd => rfl); (case hg => rfl); (case hr => first | (go_simp; done) | (go_simp; rfl)); intro gb101 hg w16 hbox hb; have n0_ := yaa (ybi (by repeat (first | (with_reducible first | exact HI0.out | apply yab | apply yac | apply yaf | apply yad) | exact HI0.out)) hb); have n1_ := yaa (yar (by repeat (first | (with_reducible first | exact HK.out | apply yag | apply yal | apply yao | apply yam) | exact HK.out)) (ybf hb g none) (.inl rfl)); have n2_ := yaa (below_step (by repeat (first | (with_reducible first | exact HB.out | apply yav | apply yan | apply yau | refine yai ?_ (yaz HI0.out)) | exact HB.out)) hb); have n3_ := yaa (hbox); have n4_ := yaa ((by rw [hg]; exact (ybh (w := w) (g := g) (row := none) (by repeat (first | (with_reducible first | exact HK.out | apply yag | apply yal | apply yao | apply yam) | exact HK.out))) : w.heap.size ≤ gb101)); have n5_ := yaa ((Nat.le_trans HW0.out (by rw [hg]; exact (ybh (w := w) (g := g) (row := none) (by repeat (first | (with_reducible first | exact HK.out | apply yag | apply yal | apply yao | apply yam) | exact HK.out))) : w.heap.size ≤ gb101) : w0.heap.size ≤ gb101)); have n6_ := yaa ((by rw [hg]; exact Nat.ne_of_lt (IsS143.lt (show ybg w0 _ g s0_0 s0_1 from by repeat (first | (with_reducible first | exact HI0.out | apply yab | apply yac | apply yaf | apply yad) | exact HI0.out))) : g ≠ gb101)); have n7_ := yaa ((by rw [hg]; exact Nat.ne_of_gt (IsS143.lt (show ybg w0 _ g s0_0 s0_1 from by repeat (first | (with_reducible first | exact HI0.out | apply yab | apply yac | apply yaf | apply yad) | exact HI0.out))) : gb101 ≠ g)); clear HI0; clear HK; clear HB; have HI0 := n0_; have HK := n1_; have HB := n2_; have BK101 := n3_; have GW101 := n4_; have GE101 := n5_; have NB0_101 := n6_; have NB101_0 := n7_; clear n0_ n1_ n2_ n3_ n4_ n5_ n6_ n7_; clear hb hbox hg) | ((with_reducible refine ybd (f := 123) rfl ?_); refine goesL_ (some 7) rfl rfl Try.func123 (by kernel_rfl) rfl #[.pointer (some ⟨g, 0, none⟩), .int .i64 0] rfl (by (try simp only [List.map_toArray, List.map_cons, List.map_nil]); first | done | rfl | (simp only [List.length_drop, List.length_take]; rfl)) ?_; (with_reducible refine (spec_l20Ops.calls k g s0_0 s0_1 0 t102 t105 w0 _ ?side1 ?side2 A3.out).mono ?_); (case side1 => repeat (first | (with_reducible first | exact HI0.out | apply yab | apply yac | apply yaf | apply yad | refine yae ?_ NB0_101.out _) | exact HI0.out)); (case side2 => repeat (first | (with_reducible first | exact HB.out | apply yav | apply yan | apply yau | refine yai ?_ (yaz HI0.out) | refine yai ?_ GE101.out) | exact HB.out)); rintro e w17 ⟨v103, rfl, ho0, hi, hb, hk⟩; refine ⟨_, rfl, ?_⟩; have n0_ := yaa (yay hk (g' := gb101) (o := .cells #[.slice none 0 0, .string (⟨#[]⟩ : ByteArray), .int .i64 0] 42 (0, 0)) (by (with_reducible repeat (first | refine yaj ?_ _ | refine yak ?_ | refine yah ?_ _)); exact BK101.out) NB101_0.out (by simp)); have n1_ := yaa (Kd.R_lower ho0 (ybh (w := w) (g := g) (row := none) (by repeat (first | (with_reducible first | exact HK.out | apply yag | apply yal | apply yao | apply yam | refine yas ?_ GW101.out _) | exact HK.out)))); have n2_ := yaa (yar (by repeat (first | (with_reducible first | exact HK.out | apply yag | apply yal | apply yao | apply yam | refine yas ?_ GW101.out _) | exact HK.out)) hk (.inl rfl)); have n3_ := yaa (hb); have n4_ := yaa (hi); clear BK101; clear HK; clear HB; clear HI0; have BK101 := n0_; have HO104 := n1_; have HK := n2_; have HB := n3_; have HI0 := n4_; clear n0_ n1_ n2_ n3_ n4_; (try clear hb); (try clear hb2); (try clear hk); (try clear hi); (try clear ho0)) | ((with_reducible refine ybd (f := 124) rfl ?_); refine goesL_ (some 9) rfl rfl Try.func124 (by kernel_rfl) rfl #[.pointer (some ⟨g, 0, none⟩)] rfl (by (try simp only [List.map_toArray, List.map_cons, List.map_nil]); first | done | rfl | (simp only [List.length_drop, List.length_take]; rfl)) ?_; (with_reducible refine (spec_l20Path.calls k g s0_0 t105 t106 t107 w0 _ ?side1 ?side2 A4.out).mono ?_); (case side1 => repeat (first | (with_reducible first | exact HI0.out | apply yab | apply yac | apply yaf | apply yad | refine yae ?_ NB0_101.out _) | exact HI0.out)); (case side2 => repeat (first | (with_reducible first | exact HB.out | apply yav | apply yan | apply yau | refine yai ?_ (yaz HI0.out) | refine yai ?_ GE101.out) | exact HB.out)); rintro e w18 ⟨rfl, hi, hb, hk⟩; refine ⟨_, rfl, ?_⟩; have n0_ := yaa (yay hk (g' := gb101) (o := .cells #[.slice none 0 0, .string (⟨#[]⟩ : ByteArray), .int .i64 0] 42 (0, 0)) (by (with_reducible repeat (first | refine yaj ?_ _ | refine yak ?_ | refine yah ?_ _)); exact BK101.out) NB101_0.out (by simp)); have n1_ := yaa (yax (ybc (yaw (show ybg w0 _ g s0_0 t105 from by repeat (first | (with_reducible first | exact HI0.out | apply yab | apply yac | apply yaf | apply yad | refine yae ?_ NB0_101.out _) | exact HI0.out)) (by (with_reducible repeat (first | apply yap | apply yaq | apply yat)); exact HO104.out) (by decide)) hk (fun _ h => h.2)) (fun _ h => h.1)); have n2_ := yaa (yar (by repeat (first | (with_reducible first | exact HK.out | apply yag | apply yal | apply yao | apply yam | refine yas ?_ GW101.out _) | exact HK.out)) hk (.inl rfl)); have n3_ := yaa (hb); have n4_ := yaa (hi); clear BK101; clear HO104; clear HK; clear HB; clear HI0; have BK101 := n0_; have HO104 := n1_; have HK := n2_; have HB := n3_; have HI0 := n4_; clear n0_ n1_ n2_ n3_ n4_; (try clear hb); (try clear hb2); (try clear hk); (try clear hi)) | ((with_reducible refine ybd (f := 116) rfl ?_); refine goesL_ (some 11) rfl rfl Try.func116 (by kernel_rfl) rfl #[.pointer (some ⟨g, 0, none⟩), .int .i64 80] rfl (by (try simp only [List.map_toArray, List.map_cons, List.map_nil]); first | done | rfl | (simp only [List.length_drop, List.length_take]; rfl)) ?_; (with_reducible refine (spec_l20Rd_pick.calls k g s0_0 t107 80 t108 t109 w0 _ ?side1 ?side2 A5.out).mono ?_); (case side1 => repeat (first | (with_reducible first | exact HI0.out | apply yab | apply yac | apply yaf | apply yad | refine yae ?_ NB0_101.out _) | exact HI0.out)); (case side2 => repeat (first | (with_reducible first | exact HB.out | apply yav | apply yan | apply yau | refine yai ?_ (yaz HI0.out) | refine yai ?_ GE101.out) | exact HB.out)); rintro e w19 ⟨rfl, hi, hb, hk⟩; refine ⟨_, rfl, ?_⟩; have n0_ := yaa (yay hk (g' := gb101) (o := .cells #[.slice none 0 0, .string (⟨#[]⟩ : ByteArray), .int .i64 0] 42 (0, 0)) (by (with_reducible repeat (first | refine yaj ?_ _ | refine yak ?_ | refine yah ?_ _)); exact BK101.out) NB101_0.out (by simp)); have n1_ := yaa (yax (ybc (yaw (show ybg w0 _ g s0_0 t107 from by repeat (first | (with_reducible first | exact HI0.out | apply yab | apply yac | apply yaf | apply yad | refine yae ?_ NB0_101.out _) | exact HI0.out)) (by (with_reducible repeat (first | apply yap | apply yaq | apply yat)); exact HO104.out) (by decide)) hk (fun _ h => h.2)) (fun _ h => h.1)); have n2_ := yaa (yar (by repeat (first | (with_reducible first | exact HK.out | apply yag | apply yal | apply yao | apply yam | refine yas ?_ GW101.out _) | exact HK.out)) hk (.inl rfl)); have n3_ := yaa (hb); have n4_ := yaa (hi); clear BK101; clear HO104; clear HK; clear HB; clear HI0; have BK101 := n0_; have HO104 := n1_; have HK := n2_; have HB := n3_; have HI0 := n4_; clear n0_ n1_ n2_ n3_ n4_; (try clear hb); (try clear hb2); (try clear hk); (try clear hi)) | ((with_reducible refine gate_dst (N := 12) rfl ?_); refine Kd.R_lit (Kd.int .i64) _ 3 ?hg (N := 12) ?hd (xs := ([9999, t108] : List Int)) (inner := [.int .i64 9999, .int .i64 t108]) (ok := fun _ => True) (okp := fun _ => True) ?hr ?hp (fun _ hk => hk) trivial (Below.refl _ _) (Nat.le_refl _) (by simp) ?_; (case hd => rfl); (case hg => rfl); (case hr => first | (go_simp; done) | (go_simp; rfl)); (case hp => exact (Reps.one (show Kd.M (Kd.int .i64) _ _ _ 9999 [.int .i64 9999] from rfl) (Reps.one (show Kd.M (Kd.int .i64) _ _ _ t108 [.int .i64 t108] from rfl) (Reps.none _ _)))); intro v111 w20 ho21 hb hg_ hnew_; clear hg_ hnew_; (first | rw [← Ny110.out] at ho21 | (simp only [Int.reduceToNat] at ho21; rw [← Ny110.out] at ho21)); have n0_ := yaa (ybj (by (with_reducible repeat (first | apply yap | apply yaq | apply yat)); exact HO104.out) hb); have n1_ := yaa (Kd.R_lower ho21 (ybh (w := w) (g := g) (row := none) (by repeat (first | (with_reducible first | exact HK.out | apply yag | apply yal | apply yao | apply yam | refine yas ?_ GW101.out _) | exact HK.out)))); have n2_ := yaa (ybi (by repeat (first | (with_reducible first | exact HI0.out | apply yab | apply yac | apply yaf | apply yad | refine yae ?_ NB0_101.out _) | exact HI0.out)) hb); have n3_ := yaa (blk_below (g := gb101) (o := .cells #[.slice none 0 0, .string (⟨#[]⟩ : ByteArray), .int .i64 0] 42 (0, 0)) (by (with_reducible repeat (first | refine yaj ?_ _ | refine yak ?_ | refine yah ?_ _)); exact BK101.out) hb); have n4_ := yaa (yar (by repeat (first | (with_reducible first | exact HK.out | apply yag | apply yal | apply yao | apply yam | refine yas ?_ GW101.out _) | exact HK.out)) (ybf hb g none) (.inl rfl)); have n5_ := yaa (below_step (by repeat (first | (with_reducible first | exact HB.out | apply yav | apply yan | apply yau | refine yai ?_ (yaz HI0.out) | refine yai ?_ GE101.out) | exact HB.out)) hb); clear HO104; clear HI0; clear BK101; clear HK; clear HB; have HO104 := n0_; have HO112 := n1_; have HI0 := n2_; have BK101 := n3_; have HK := n4_; have HB := n5_; clear n0_ n1_ n2_ n3_ n4_ n5_; clear hb ho21) | ((with_reducible refine ybd (f := 116) rfl ?_); refine goesL_ (some 14) rfl rfl Try.func116 (by kernel_rfl) rfl #[.pointer (some ⟨g, 0, none⟩), .int .i64 2] rfl (by (try simp only [List.map_toArray, List.map_cons, List.map_nil]); first | done | rfl | (simp only [List.length_drop, List.length_take]; rfl)) ?_; (with_reducible refine (spec_l20Rd_pick.calls k g s0_0 t109 2 t113 t114 w0 _ ?side1 ?side2 A6.out).mono ?_); (case side1 => repeat (first | (with_reducible first | exact HI0.out | apply yab | apply yac | apply yaf | apply yad | refine yae ?_ NB0_101.out _) | exact HI0.out)); (case side2 => repeat (first | (with_reducible first | exact HB.out | apply yav | apply yan | apply yau | refine yai ?_ (yaz HI0.out) | refine yai ?_ GE101.out) | exact HB.out)); rintro e w22 ⟨rfl, hi, hb, hk⟩; refine ⟨_, rfl, ?_⟩; have n0_ := yaa (yay hk (g' := gb101) (o := .cells #[.slice none 0 0, .string (⟨#[]⟩ : ByteArray), .int .i64 0] 42 (0, 0)) (by (with_reducible repeat (first | refine yaj ?_ _ | refine yak ?_ | refine yah ?_ _)); exact BK101.out) NB101_0.out (by simp)); have n1_ := yaa (yax (ybc (yaw (show ybg w0 _ g s0_0 t109 from by repeat (first | (with_reducible first | exact HI0.out | apply yab | apply yac | apply yaf | apply yad | refine yae ?_ NB0_101.out _) | exact HI0.out)) (by (with_reducible repeat (first | apply yap | apply yaq | apply yat)); exact HO104.out) (by decide)) hk (fun _ h => h.2)) (fun _ h => h.1)); have n2_ := yaa (yax (ybc (yaw (show ybg w0 _ g s0_0 t109 from by repeat (first | (with_reducible first | exact HI0.out | apply yab | apply yac | apply yaf | apply yad | refine yae ?_ NB0_101.out _) | exact HI0.out)) (by (with_reducible repeat (first | apply yap | apply yaq | apply yat)); exact HO112.out) (by decide)) hk (fun _ h => h.2)) (fun _ h => h.1)); have n3_ := yaa (yar (by repeat (first | (with_reducible first | exact HK.out | apply yag | apply yal | apply yao | apply yam | refine yas ?_ GW101.out _) | exact HK.out)) hk (.inl rfl)); have n4_ := yaa (hb); have n5_ := yaa (hi); clear BK101; clear HO104; clear HO112; clear HK; clear HB; clear HI0; have BK101 := n0_; have HO104 := n1_; have HO112 := n2_; have HK := n3_; have HB := n4_; have HI0 := n5_; clear n0_ n1_ n2_ n3_ n4_ n5_; (try clear hb); (try clear hb2); (try clear hk); (try clear hi); obtain ⟨Ao23, co23, eo23⟩ := Kd.R_slice HO112.out; subst eo23; have p115 : 0 ≤ (t113 : Int) := of_decide_eq_true (by first | (with_reducible assumption) | assumption); have q115 : t113 < (y110.length : Int) := of_decide_eq_true (by first | (with_reducible assumption) | assumption); obtain ⟨ad115, e115, hx115_0⟩ := Kd.at_int (Kd.R_reads' HO112.out).2.2 t113 p115 q115; cases e115; replace p115 := eq_true p115; replace q115 := eq_true q115; obtain ⟨Ao24, co24, eo24⟩ := Kd.R_slice HO104.out; subst eo24) | ((with_reducible refine gate_dst (N := 5) rfl ?_); refine box_event ?hg (N := 5) ?hd (cs := #[.slice none 0 0, .string (⟨#[]⟩ : ByteArray), .int .i64 0]) (t := 42) ?hr ?_; (case hd => rfl); (case hg => rfl); (case hr => first | (go_simp; done) | (go_simp; rfl)); intro gb116 hg w25 hbox hb; have n0_ := yaa (ybj (by (with_reducible repeat (first | apply yap | apply yaq | apply yat)); exact HO104.out) hb); have n1_ := yaa (ybj (by (with_reducible repeat (first | apply yap | apply yaq | apply yat)); exact HO112.out) hb); have n2_ := yaa (ybi (by repeat (first | (with_reducible first | exact HI0.out | apply yab | apply yac | apply yaf | apply yad | refine yae ?_ NB0_101.out _) | exact HI0.out)) hb); have n3_ := yaa (blk_below (g := gb101) (o := .cells #[.slice none 0 0, .string (⟨#[]⟩ : ByteArray), .int .i64 0] 42 (0, 0)) (by (with_reducible repeat (first | refine yaj ?_ _ | refine yak ?_ | refine yah ?_ _)); exact BK101.out) hb); have n4_ := yaa (yar (by repeat (first | (with_reducible first | exact HK.out | apply yag | apply yal | apply yao | apply yam | refine yas ?_ GW101.out _) | exact HK.out)) (ybf hb g none) (.inl rfl)); have n5_ := yaa (below_step (by repeat (first | (with_reducible first | exact HB.out | apply yav | apply yan | apply yau | refine yai ?_ (yaz HI0.out) | refine yai ?_ GE101.out) | exact HB.out)) hb); have n6_ := yaa (hbox); have n7_ := yaa ((by rw [hg]; exact (ybh (w := w) (g := g) (row := none) (by repeat (first | (with_reducible first | exact HK.out | apply yag | apply yal | apply yao | apply yam | refine yas ?_ GW101.out _) | exact HK.out))) : w.heap.size ≤ gb116)); have n8_ := yaa ((Nat.le_trans HW0.out (by rw [hg]; exact (ybh (w := w) (g := g) (row := none) (by repeat (first | (with_reducible first | exact HK.out | apply yag | apply yal | apply yao | apply yam | refine yas ?_ GW101.out _) | exact HK.out))) : w.heap.size ≤ gb116) : w0.heap.size ≤ gb116)); have n9_ := yaa ((by rw [hg]; exact Nat.ne_of_lt (blk_lt (g := gb101) (o := .cells #[.slice none 0 0, .string (⟨#[]⟩ : ByteArray), .int .i64 0] 42 (0, 0)) (by (with_reducible repeat (first | refine yaj ?_ _ | refine yak ?_ | refine yah ?_ _)); exact BK101.out)) : gb101 ≠ gb116)); have n10_ := yaa ((by rw [hg]; exact Nat.ne_of_gt (blk_lt (g := gb101) (o := .cells #[.slice none 0 0, .string (⟨#[]⟩ : ByteArray), .int .i64 0] 42 (0, 0)) (by (with_reducible repeat (first | refine yaj ?_ _ | refine yak ?_ | refine yah ?_ _)); exact BK101.out)) : gb116 ≠ gb101)); have n11_ := yaa ((by rw [hg]; exact Nat.ne_of_lt (IsS143.lt (show ybg w0 _ g s0_0 t114 from by repeat (first | (with_reducible first | exact HI0.out | apply yab | apply yac | apply yaf | apply yad | refine yae ?_ NB0_101.out _) | exact HI0.out))) : g ≠ gb116)); have n12_ := yaa ((by rw [hg]; exact Nat.ne_of_gt (IsS143.lt (show ybg w0 _ g s0_0 t114 from by repeat (first | (with_reducible first | exact HI0.out | apply yab | apply yac | apply yaf | apply yad | refine yae ?_ NB0_101.out _) | exact HI0.out))) : gb116 ≠ g)); clear HO104; clear HO112; clear HI0; clear BK101; clear HK; clear HB; have HO104 := n0_; have HO112 := n1_; have HI0 := n2_; have BK101 := n3_; have HK := n4_; have HB := n5_; have BK116 := n6_; have GW116 := n7_; have GE116 := n8_; have NB101_116 := n9_; have NB116_101 := n10_; have NB0_116 := n11_; have NB116_0 := n12_; clear n0_ n1_ n2_ n3_ n4_ n5_ n6_ n7_ n8_ n9_ n10_ n11_ n12_; clear hb hbox hg; have hnb26 := NB116_101.out; have hnc26 := NB101_116.out; have hnb27 := NB116_0.out; have hnc27 := NB0_116.out; have hcz28_0 : w25.cell? ⟨gb116, 0, none⟩ = some (.slice none 0 0) := (ybb BK116.out 0).trans rfl; have hcz28_1 : w25.cell? ⟨gb116, 1, none⟩ = some (.string (⟨#[]⟩ : ByteArray)) := (ybb BK116.out 1).trans rfl; have hcz28_2 : w25.cell? ⟨gb116, 2, none⟩ = some (.int .i64 0) := (ybb BK116.out 2).trans rfl; have hfz28_0 := yba BK116.out 0; have hfz28_1 := yba BK116.out 1; have hfz28_2 := yba BK116.out 2) | ((with_reducible refine ybd (f := 117) rfl ?_); refine goesL_ (some 20) rfl rfl Try.func117 (by kernel_rfl) rfl #[.pointer (some ⟨g, 0, none⟩), .int .i64 a1] rfl (by (try simp only [List.map_toArray, List.map_cons, List.map_nil]); first | done | rfl | (simp only [List.length_drop, List.length_take]; rfl)) ?_; (with_reducible refine (spec_l20Rd_odd.calls k g s0_0 t114 a1 true t118 w0 _ ?side1 ?side2 A9.out).mono ?_); (case side1 => repeat (first | (with_reducible first | exact HI0.out | apply yab | apply yac | apply yaf | apply yad | refine yae ?_ NB0_101.out _ | refine yae ?_ NB0_116.out _) | exact HI0.out)); (case side2 => repeat (first | (with_reducible first | exact HB.out | apply yav | apply yan | apply yau | refine yai ?_ (yaz HI0.out) | refine yai ?_ GE101.out | refine yai ?_ GE116.out) | exact HB.out)); rintro e w29 ⟨rfl, hi, hb, hk⟩; refine ⟨_, rfl, ?_⟩; have n0_ := yaa (yay hk (g' := gb101) (o := .cells #[.slice none 0 0, .string (⟨#[]⟩ : ByteArray), .int .i64 0] 42 (0, 0)) (by (with_reducible repeat (first | refine yaj ?_ _ | refine yak ?_ | refine yah ?_ _)); refine blk_far ?_ NB101_116.out _; (with_reducible repeat (first | refine yaj ?_ _ | refine yak ?_ | refine yah ?_ _)); refine blk_far ?_ NB101_116.out _; (with_reducible repeat (first | refine yaj ?_ _ | refine yak ?_ | refine yah ?_ _)); refine blk_far ?_ NB101_116.out _; (with_reducible repeat (first | refine yaj ?_ _ | refine yak ?_ | refine yah ?_ _)); exact BK101.out) NB101_0.out (by simp)); have n1_ := yaa (yax (ybc (yaw (show ybg w0 _ g s0_0 t114 from by repeat (first | (with_reducible first | exact HI0.out | apply yab | apply yac | apply yaf | apply yad | refine yae ?_ NB0_101.out _ | refine yae ?_ NB0_116.out _) | exact HI0.out)) (by (with_reducible repeat (first | apply yap | apply yaq | apply yat)); exact (yax (ybe (p := ⟨gb116, 2, none⟩) (ybe (p := ⟨gb116, 1, none⟩) (ybe (p := ⟨gb116, 0, none⟩) (ybk HO104.out BK116.out (by decide)) (fun _ hk => hk.2) (.slice Ao24 t102.length co24)) (fun _ hk => hk.2) (.string t106)) (fun _ hk => hk.2) (.int .i64 (rd y110 t113))) (fun _ h_ => h_.1))) (by decide)) hk (fun _ h => h.2)) (fun _ h => h.1)); have n2_ := yaa (yax (ybc (yaw (show ybg w0 _ g s0_0 t114 from by repeat (first | (with_reducible first | exact HI0.out | apply yab | apply yac | apply yaf | apply yad | refine yae ?_ NB0_101.out _ | refine yae ?_ NB0_116.out _) | exact HI0.out)) (by (with_reducible repeat (first | apply yap | apply yaq | apply yat)); exact (yax (ybe (p := ⟨gb116, 2, none⟩) (ybe (p := ⟨gb116, 1, none⟩) (ybe (p := ⟨gb116, 0, none⟩) (ybk HO112.out BK116.out (by decide)) (fun _ hk => hk.2) (.slice Ao24 t102.length co24)) (fun _ hk => hk.2) (.string t106)) (fun _ hk => hk.2) (.int .i64 (rd y110 t113))) (fun _ h_ => h_.1))) (by decide)) hk (fun _ h => h.2)) (fun _ h => h.1)); have n3_ := yaa (yay hk (g' := gb116) (o := .cells #[.slice Ao24 t102.length co24, .string t106, .int .i64 (rd y110 t113)] 42 (0, 0)) (by (with_reducible repeat (first | refine yaj ?_ _ | refine yak ?_ | refine yah ?_ _)); refine blk_put (cs := #[.slice Ao24 t102.length co24, .string t106, .int .i64 0]) ?_ 2 _ rfl; (with_reducible repeat (first | refine yaj ?_ _ | refine yak ?_ | refine yah ?_ _)); refine blk_put (cs := #[.slice Ao24 t102.length co24, .string (⟨#[]⟩ : ByteArray), .int .i64 0]) ?_ 1 _ rfl; (with_reducible repeat (first | refine yaj ?_ _ | refine yak ?_ | refine yah ?_ _)); refine blk_put (cs := #[.slice none 0 0, .string (⟨#[]⟩ : ByteArray), .int .i64 0]) ?_ 0 _ rfl; (with_reducible repeat (first | refine yaj ?_ _ | refine yak ?_ | refine yah ?_ _)); exact BK116.out) NB116_0.out (by simp)); have n4_ := yaa (yar (by repeat (first | (with_reducible first | exact HK.out | apply yag | apply yal | apply yao | apply yam | refine yas ?_ GW101.out _ | refine yas ?_ GW116.out _) | exact HK.out)) hk (.inl rfl)); have n5_ := yaa (hb); have n6_ := yaa (hi); clear BK101; clear HO104; clear HO112; clear BK116; clear HK; clear HB; clear HI0; have BK101 := n0_; have HO104 := n1_; have HO112 := n2_; have BK116 := n3_; have HK := n4_; have HB := n5_; have HI0 := n6_; clear n0_ n1_ n2_ n3_ n4_ n5_ n6_; (try clear hb); (try clear hb2); (try clear hk); (try clear hi)) | ((with_reducible refine ybd (f := 116) rfl ?_); refine goesL_ (some 22) rfl rfl Try.func116 (by kernel_rfl) rfl #[.pointer (some ⟨g, 0, none⟩), .int .i64 3] rfl (by (try simp only [List.map_toArray, List.map_cons, List.map_nil]); first | done | rfl | (simp only [List.length_drop, List.length_take]; rfl)) ?_; (with_reducible refine (spec_l20Rd_pick.calls k g s0_0 t118 3 t119 t120 w0 _ ?side1 ?side2 A11.out).mono ?_); (case side1 => repeat (first | (with_reducible first | exact HI0.out | apply yab | apply yac | apply yaf | apply yad | refine yae ?_ NB0_101.out _ | refine yae ?_ NB0_116.out _) | exact HI0.out)); (case side2 => repeat (first | (with_reducible first | exact HB.out | apply yav | apply yan | apply yau | refine yai ?_ (yaz HI0.out) | refine yai ?_ GE101.out | refine yai ?_ GE116.out) | exact HB.out)); rintro e w30 ⟨rfl, hi, hb, hk⟩; refine ⟨_, rfl, ?_⟩; have n0_ := yaa (yay hk (g' := gb101) (o := .cells #[.slice none 0 0, .string (⟨#[]⟩ : ByteArray), .int .i64 0] 42 (0, 0)) (by (with_reducible repeat (first | refine yaj ?_ _ | refine yak ?_ | refine yah ?_ _)); exact BK101.out) NB101_0.out (by simp)); have n1_ := yaa (yax (ybc (yaw (show ybg w0 _ g s0_0 t118 from by repeat (first | (with_reducible first | exact HI0.out | apply yab | apply yac | apply yaf | apply yad | refine yae ?_ NB0_101.out _ | refine yae ?_ NB0_116.out _) | exact HI0.out)) (by (with_reducible repeat (first | apply yap | apply yaq | apply yat)); exact HO104.out) (by decide)) hk (fun _ h => h.2)) (fun _ h => h.1)); have n2_ := yaa (yax (ybc (yaw (show ybg w0 _ g s0_0 t118 from by repeat (first | (with_reducible first | exact HI0.out | apply yab | apply yac | apply yaf | apply yad | refine yae ?_ NB0_101.out _ | refine yae ?_ NB0_116.out _) | exact HI0.out)) (by (with_reducible repeat (first | apply yap | apply yaq | apply yat)); exact HO112.out) (by decide)) hk (fun _ h => h.2)) (fun _ h => h.1)); have n3_ := yaa (yay hk (g' := gb116) (o := .cells #[.slice Ao24 t102.length co24, .string t106, .int .i64 (rd y110 t113)] 42 (0, 0)) (by (with_reducible repeat (first | refine yaj ?_ _ | refine yak ?_ | refine yah ?_ _)); exact BK116.out) NB116_0.out (by simp)); have n4_ := yaa (yar (by repeat (first | (with_reducible first | exact HK.out | apply yag | apply yal | apply yao | apply yam | refine yas ?_ GW101.out _ | refine yas ?_ GW116.out _) | exact HK.out)) hk (.inl rfl)); have n5_ := yaa (hb); have n6_ := yaa (hi); clear BK101; clear HO104; clear HO112; clear BK116; clear HK; clear HB; clear HI0; have BK101 := n0_; have HO104 := n1_; have HO112 := n2_; have BK116 := n3_; have HK := n4_; have HB := n5_; have HI0 := n6_; clear n0_ n1_ n2_ n3_ n4_ n5_ n6_; (try clear hb); (try clear hb2); (try clear hk); (try clear hi)) | ((with_reducible refine gate_dst (N := 32) rfl ?_); refine Kd.R_lit Kd.string _ 9 ?hg (N := 32) ?hd (xs := ([(⟨#[]⟩ : ByteArray), (⟨#[97, 98, 99, 100, 101, 102, 103]⟩ : ByteArray), (⟨#[65]⟩ : ByteArray), (⟨#[97, 32, 98]⟩ : ByteArray)] : List ByteArray)) (inner := [.string (⟨#[]⟩ : ByteArray), .string (⟨#[97, 98, 99, 100, 101, 102, 103]⟩ : ByteArray), .string (⟨#[65]⟩ : ByteArray), .string (⟨#[97, 32, 98]⟩ : ByteArray)]) (ok := fun _ => True) (okp := fun _ => True) ?hr ?hp (fun _ hk => hk) trivial (Below.refl _ _) (Nat.le_refl _) (by simp) ?_; (case hd => rfl); (case hg => rfl); (case hr => first | (go_simp; done) | (go_simp; rfl)); (case hp => exact (Reps.one (show Kd.M Kd.string _ _ _ (⟨#[]⟩ : ByteArray) [.string (⟨#[]⟩ : ByteArray)] from rfl) (Reps.one (show Kd.M Kd.string _ _ _ (⟨#[97, 98, 99, 100, 101, 102, 103]⟩ : ByteArray) [.string (⟨#[97, 98, 99, 100, 101, 102, 103]⟩ : ByteArray)] from rfl) (Reps.one (show Kd.M Kd.string _ _ _ (⟨#[65]⟩ : ByteArray) [.string (⟨#[65]⟩ : ByteArray)] from rfl) (Reps.one (show Kd.M Kd.string _ _ _ (⟨#[97, 32, 98]⟩ : ByteArray) [.string (⟨#[97, 32, 98]⟩ : ByteArray)] from rfl) (Reps.none _ _)))))); intro v122 w31 ho32 hb hg_ hnew_; clear hg_ hnew_; (first | rw [← Ny121.out] at ho32 | (simp only [Int.reduceToNat] at ho32; rw [← Ny121.out] at ho32)); have n0_ := yaa (ybj (by (with_reducible repeat (first | apply yap | apply yaq | apply yat)); exact HO104.out) hb); have n1_ := yaa (ybj (by (with_reducible repeat (first | apply yap | apply yaq | apply yat)); exact HO112.out) hb); have n2_ := yaa (Kd.R_lower ho32 (ybh (w := w) (g := g) (row := none) (by repeat (first | (with_reducible first | exact HK.out | apply yag | apply yal | apply yao | apply yam | refine yas ?_ GW101.out _ | refine yas ?_ GW116.out _) | exact HK.out)))); have n3_ := yaa (ybi (by repeat (first | (with_reducible first | exact HI0.out | apply yab | apply yac | apply yaf | apply yad | refine yae ?_ NB0_101.out _ | refine yae ?_ NB0_116.out _) | exact HI0.out)) hb); have n4_ := yaa (blk_below (g := gb101) (o := .cells #[.slice none 0 0, .string (⟨#[]⟩ : ByteArray), .int .i64 0] 42 (0, 0)) (by (with_reducible repeat (first | refine yaj ?_ _ | refine yak ?_ | refine yah ?_ _)); exact BK101.out) hb); have n5_ := yaa (blk_below (g := gb116) (o := .cells #[.slice Ao24 t102.length co24, .string t106, .int .i64 (rd y110 t113)] 42 (0, 0)) (by (with_reducible repeat (first | refine yaj ?_ _ | refine yak ?_ | refine yah ?_ _)); exact BK116.out) hb); have n6_ := yaa (yar (by repeat (first | (with_reducible first | exact HK.out | apply yag | apply yal | apply yao | apply yam | refine yas ?_ GW101.out _ | refine yas ?_ GW116.out _) | exact HK.out)) (ybf hb g none) (.inl rfl)); have n7_ := yaa (below_step (by repeat (first | (with_reducible first | exact HB.out | apply yav | apply yan | apply yau | refine yai ?_ (yaz HI0.out) | refine yai ?_ GE101.out | refine yai ?_ GE116.out) | exact HB.out)) hb); clear HO104; clear HO112; clear HI0; clear BK101; clear BK116; clear HK; clear HB; have HO104 := n0_; have HO112 := n1_; have HO123 := n2_; have HI0 := n3_; have BK101 := n4_; have BK116 := n5_; have HK := n6_; have HB := n7_; clear n0_ n1_ n2_ n3_ n4_ n5_ n6_ n7_; clear hb ho32) | ((with_reducible refine ybd (f := 116) rfl ?_); refine goesL_ (some 34) rfl rfl Try.func116 (by kernel_rfl) rfl #[.pointer (some ⟨g, 0, none⟩), .int .i64 4] rfl (by (try simp only [List.map_toArray, List.map_cons, List.map_nil]); first | done | rfl | (simp only [List.length_drop, List.length_take]; rfl)) ?_; (with_reducible refine (spec_l20Rd_pick.calls k g s0_0 t120 4 t124 t125 w0 _ ?side1 ?side2 A13.out).mono ?_); (case side1 => repeat (first | (with_reducible first | exact HI0.out | apply yab | apply yac | apply yaf | apply yad | refine yae ?_ NB0_101.out _ | refine yae ?_ NB0_116.out _) | exact HI0.out)); (case side2 => repeat (first | (with_reducible first | exact HB.out | apply yav | apply yan | apply yau | refine yai ?_ (yaz HI0.out) | refine yai ?_ GE101.out | refine yai ?_ GE116.out) | exact HB.out)); rintro e w33 ⟨rfl, hi, hb, hk⟩; refine ⟨_, rfl, ?_⟩; have n0_ := yaa (yay hk (g' := gb101) (o := .cells #[.slice none 0 0, .string (⟨#[]⟩ : ByteArray), .int .i64 0] 42 (0, 0)) (by (with_reducible repeat (first | refine yaj ?_ _ | refine yak ?_ | refine yah ?_ _)); exact BK101.out) NB101_0.out (by simp)); have n1_ := yaa (yax (ybc (yaw (show ybg w0 _ g s0_0 t120 from by repeat (first | (with_reducible first | exact HI0.out | apply yab | apply yac | apply yaf | apply yad | refine yae ?_ NB0_101.out _ | refine yae ?_ NB0_116.out _) | exact HI0.out)) (by (with_reducible repeat (first | apply yap | apply yaq | apply yat)); exact HO104.out) (by decide)) hk (fun _ h => h.2)) (fun _ h => h.1)); have n2_ := yaa (yax (ybc (yaw (show ybg w0 _ g s0_0 t120 from by repeat (first | (with_reducible first | exact HI0.out | apply yab | apply yac | apply yaf | apply yad | refine yae ?_ NB0_101.out _ | refine yae ?_ NB0_116.out _) | exact HI0.out)) (by (with_reducible repeat (first | apply yap | apply yaq | apply yat)); exact HO112.out) (by decide)) hk (fun _ h => h.2)) (fun _ h => h.1)); have n3_ := yaa (yay hk (g' := gb116) (o := .cells #[.slice Ao24 t102.length co24, .string t106, .int .i64 (rd y110 t113)] 42 (0, 0)) (by (with_reducible repeat (first | refine yaj ?_ _ | refine yak ?_ | refine yah ?_ _)); exact BK116.out) NB116_0.out (by simp)); have n4_ := yaa (yax (ybc (yaw (show ybg w0 _ g s0_0 t120 from by repeat (first | (with_reducible first | exact HI0.out | apply yab | apply yac | apply yaf | apply yad | refine yae ?_ NB0_101.out _ | refine yae ?_ NB0_116.out _) | exact HI0.out)) (by (with_reducible repeat (first | apply yap | apply yaq | apply yat)); exact HO123.out) (by decide)) hk (fun _ h => h.2)) (fun _ h => h.1)); have n5_ := yaa (yar (by repeat (first | (with_reducible first | exact HK.out | apply yag | apply yal | apply yao | apply yam | refine yas ?_ GW101.out _ | refine yas ?_ GW116.out _) | exact HK.out)) hk (.inl rfl)); have n6_ := yaa (hb); have n7_ := yaa (hi); clear BK101; clear HO104; clear HO112; clear BK116; clear HO123; clear HK; clear HB; clear HI0; have BK101 := n0_; have HO104 := n1_; have HO112 := n2_; have BK116 := n3_; have HO123 := n4_; have HK := n5_; have HB := n6_; have HI0 := n7_; clear n0_ n1_ n2_ n3_ n4_ n5_ n6_ n7_; (try clear hb); (try clear hb2); (try clear hk); (try clear hi); obtain ⟨Ao34, co34, eo34⟩ := Kd.R_slice HO123.out; subst eo34; have p126 : 0 ≤ (t124 : Int) := of_decide_eq_true (by first | (with_reducible assumption) | assumption); have q126 : t124 < (y121.length : Int) := of_decide_eq_true (by first | (with_reducible assumption) | assumption); obtain ⟨ad126, e126, hx126_0⟩ := Kd.at_string (Kd.R_reads' HO123.out).2.2 t124 p126 q126; cases e126; replace p126 := eq_true p126; replace q126 := eq_true q126; have hcz35_0 : w33.cell? ⟨gb116, 0, none⟩ = some (.slice Ao24 t102.length co24) := (ybb BK116.out 0).trans rfl; have hcz35_1 : w33.cell? ⟨gb116, 1, none⟩ = some (.string t106) := (ybb BK116.out 1).trans rfl; have hcz35_2 : w33.cell? ⟨gb116, 2, none⟩ = some (.int .i64 (rd y110 t113)) := (ybb BK116.out 2).trans rfl; have hfz35_0 := yba BK116.out 0; have hfz35_1 := yba BK116.out 1; have hfz35_2 := yba BK116.out 2; have hnb36 := NB101_0.out; have hnc36 := NB0_101.out; have hcz37_0 : w33.cell? ⟨gb101, 0, none⟩ = some (.slice none 0 0) := (ybb BK101.out 0).trans rfl; have hcz37_1 : w33.cell? ⟨gb101, 1, none⟩ = some (.string (⟨#[]⟩ : ByteArray)) := (ybb BK101.out 1).trans rfl; have hcz37_2 : w33.cell? ⟨gb101, 2, none⟩ = some (.int .i64 0) := (ybb BK101.out 2).trans rfl; have hfz37_0 := yba BK101.out 0; have hfz37_1 := yba BK101.out 1; have hfz37_2 := yba BK101.out 2))
       refine bodyPost_ret (results_cell_row rfl _ _ gb101 42 #[.slice Ao24 t102.length co24, .string (rdOf ByteArray.empty y121 t124), .int .i64 (rd y110 t113)] (0, 0) _ rfl (by (with_reducible repeat (first | refine yaj ?_ _ | refine yak ?_ | refine yah ?_ _)); refine blk_put (cs := #[.slice Ao24 t102.length co24, .string (rdOf ByteArray.empty y121 t124), .int .i64 0]) ?_ 2 _ rfl; (with_reducible repeat (first | refine yaj ?_ _ | refine yak ?_ | refine yah ?_ _)); refine blk_put (cs := #[.slice Ao24 t102.length co24, .string (⟨#[]⟩ : ByteArray), .int .i64 0]) ?_ 1 _ rfl; (with_reducible repeat (first | refine yaj ?_ _ | refine yak ?_ | refine yah ?_ _)); refine blk_put (cs := #[.slice none 0 0, .string (⟨#[]⟩ : ByteArray), .int .i64 0]) ?_ 0 _ rfl; (with_reducible repeat (first | refine yaj ?_ _ | refine yak ?_ | refine yah ?_ _)); refine blk_far ?_ NB101_116.out _; (with_reducible repeat (first | refine yaj ?_ _ | refine yak ?_ | refine yah ?_ _)); exact BK101.out) Try.underlying42 rfl (by kernel_rfl)) rfl ?_
       exact ⟨_, by first | rfl | (simp [errW_none, errW_some] <;> rfl) | (simp [*, errW_none, errW_some] <;> rfl), by (with_reducible repeat (first | apply yap | apply yaq | apply yat)); exact yax (ybe (p := ⟨gb101, 2, none⟩) (ybe (p := ⟨gb101, 1, none⟩) (ybe (p := ⟨gb101, 0, none⟩) (ybe (p := ⟨gb116, 1, none⟩) (ybk (ybk HO104.out BK116.out (by decide)) BK101.out (by decide)) (fun _ hk => hk.1.2) (.string (rdOf ByteArray.empty y121 t124))) (fun _ hk => hk.2) (.slice Ao24 t102.length co24)) (fun _ hk => hk.2) (.string (rdOf ByteArray.empty y121 t124))) (fun _ hk => hk.2) (.int .i64 (rd y110 t113))) (fun _ hk => trivial), by repeat (first | (with_reducible first | exact HI0.out | apply yab | apply yac | apply yaf | apply yad | refine yae ?_ NB0_101.out _ | refine yae ?_ NB0_116.out _) | exact HI0.out), by repeat (first | (with_reducible first | exact HB.out | apply yav | apply yan | apply yau | refine yai ?_ (yaz HI0.out) | refine yai ?_ GE101.out | refine yai ?_ GE116.out) | exact HB.out), by repeat (first | (with_reducible first | exact HK.out | apply yag | apply yal | apply yao | apply yam | refine yas ?_ GW101.out _ | refine yas ?_ GW116.out _) | exact HK.out)⟩
      ·
       rw [if_neg c15] at H
       exact absurd H (by simp)
     ·
      rw [if_neg c14] at H
      exact absurd H (by simp)
    ·
     rw [if_neg c12] at H
     have c12b0 : (t119 == 0) = false := beq_eq_false_iff_ne.mpr c12
     have c12b1 : (t119 != 0) = true := bne_iff_ne.mpr c12
     by_cases c38 : t119 = 1
     ·
      rw [if_pos c38] at H
      have c38b0 : (t119 == 1) = true := beq_iff_eq.mpr c38
      have c38b1 : (t119 != 1) = false := bne_eq_false_iff_eq.mpr c38
      clear c38
      obtain ⟨y127, hy127⟩ : ∃ y_ : List Int, y_ = (([(-1), 10000] : List Int)) := ⟨_, rfl⟩
      replace H : ((spec_l20Rd_pick.f k s0_0 t120 2).bind fun bt130 => (if 0 ≤ bt130.1 then (if bt130.1 < (y127.length : Int) then (some (t102, t106, rd y127 bt130.1, bt130.2)) else (none)) else (none))) = some (r1, r2, r3, r4) := by first | (rw [hy127]; with_reducible exact H) | (have H2_ := (Option.bind_some _ _).symm.trans H; rw [hy127]; with_reducible exact H2_) | (have H2_ := (Option.bind_some _ _).symm.trans H; with_reducible exact H2_) | with_reducible exact H | (rw [hy127]; exact H) | exact H
      have Ny127 := yaa hy127
      clear hy127
      replace H := Option.bind_eq_some_iff.mp H
      obtain ⟨⟨t130, t131⟩, A390, H⟩ := H
      replace H : (if 0 ≤ t130 then (if t130 < (y127.length : Int) then (some (t102, t106, rd y127 t130, t131)) else (none)) else (none)) = some (r1, r2, r3, r4) := H
      have A39 := yaa A390
      clear A390
      by_cases c40 : 0 ≤ t130
      ·
       rw [if_pos c40] at H
       have c40b0 : decide (0 ≤ t130) = true := decide_eq_true c40
       clear c40
       by_cases c41 : t130 < (y127.length : Int)
       ·
        rw [if_pos c41] at H
        have c41b0 : decide (t130 < (y127.length : Int)) = true := decide_eq_true c41
        clear c41
        simp only [Option.some.injEq, Prod.mk.injEq] at H
        obtain ⟨rfl, rfl, rfl, rfl⟩ := H
        go_enter Try.func75, Try.ntmps75
        go_wp2_with (first | ((with_reducible refine gate_dst (N := 4) rfl ?_); refine box_event ?hg (N := 4) ?hd (cs := #[.slice none 0 0, .string (⟨#[]⟩ : ByteArray), .int .i64 0]) (t := 42) ?hr ?_; (case hd => rfl); (case hg => rfl); (case hr => first | (go_simp; done) | (go_simp; rfl)); intro gb101 hg w42 hbox hb; have n0_ := yaa (ybi (by repeat (first | (with_reducible first | exact HI0.out | apply yab | apply yac | apply yaf | apply yad) | exact HI0.out)) hb); have n1_ := yaa (yar (by repeat (first | (with_reducible first | exact HK.out | apply yag | apply yal | apply yao | apply yam) | exact HK.out)) (ybf hb g none) (.inl rfl)); have n2_ := yaa (below_step (by repeat (first | (with_reducible first | exact HB.out | apply yav | apply yan | apply yau | refine yai ?_ (yaz HI0.out)) | exact HB.out)) hb); have n3_ := yaa (hbox); have n4_ := yaa ((by rw [hg]; exact (ybh (w := w) (g := g) (row := none) (by repeat (first | (with_reducible first | exact HK.out | apply yag | apply yal | apply yao | apply yam) | exact HK.out))) : w.heap.size ≤ gb101)); have n5_ := yaa ((Nat.le_trans HW0.out (by rw [hg]; exact (ybh (w := w) (g := g) (row := none) (by repeat (first | (with_reducible first | exact HK.out | apply yag | apply yal | apply yao | apply yam) | exact HK.out))) : w.heap.size ≤ gb101) : w0.heap.size ≤ gb101)); have n6_ := yaa ((by rw [hg]; exact Nat.ne_of_lt (IsS143.lt (show ybg w0 _ g s0_0 s0_1 from by repeat (first | (with_reducible first | exact HI0.out | apply yab | apply yac | apply yaf | apply yad) | exact HI0.out))) : g ≠ gb101)); have n7_ := yaa ((by rw [hg]; exact Nat.ne_of_gt (IsS143.lt (show ybg w0 _ g s0_0 s0_1 from by repeat (first | (with_reducible first | exact HI0.out | apply yab | apply yac | apply yaf | apply yad) | exact HI0.out))) : gb101 ≠ g)); clear HI0; clear HK; clear HB; have HI0 := n0_; have HK := n1_; have HB := n2_; have BK101 := n3_; have GW101 := n4_; have GE101 := n5_; have NB0_101 := n6_; have NB101_0 := n7_; clear n0_ n1_ n2_ n3_ n4_ n5_ n6_ n7_; clear hb hbox hg) | ((with_reducible refine ybd (f := 123) rfl ?_); refine goesL_ (some 7) rfl rfl Try.func123 (by kernel_rfl) rfl #[.pointer (some ⟨g, 0, none⟩), .int .i64 0] rfl (by (try simp only [List.map_toArray, List.map_cons, List.map_nil]); first | done | rfl | (simp only [List.length_drop, List.length_take]; rfl)) ?_; (with_reducible refine (spec_l20Ops.calls k g s0_0 s0_1 0 t102 t105 w0 _ ?side1 ?side2 A3.out).mono ?_); (case side1 => repeat (first | (with_reducible first | exact HI0.out | apply yab | apply yac | apply yaf | apply yad | refine yae ?_ NB0_101.out _) | exact HI0.out)); (case side2 => repeat (first | (with_reducible first | exact HB.out | apply yav | apply yan | apply yau | refine yai ?_ (yaz HI0.out) | refine yai ?_ GE101.out) | exact HB.out)); rintro e w43 ⟨v103, rfl, ho0, hi, hb, hk⟩; refine ⟨_, rfl, ?_⟩; have n0_ := yaa (yay hk (g' := gb101) (o := .cells #[.slice none 0 0, .string (⟨#[]⟩ : ByteArray), .int .i64 0] 42 (0, 0)) (by (with_reducible repeat (first | refine yaj ?_ _ | refine yak ?_ | refine yah ?_ _)); exact BK101.out) NB101_0.out (by simp)); have n1_ := yaa (Kd.R_lower ho0 (ybh (w := w) (g := g) (row := none) (by repeat (first | (with_reducible first | exact HK.out | apply yag | apply yal | apply yao | apply yam | refine yas ?_ GW101.out _) | exact HK.out)))); have n2_ := yaa (yar (by repeat (first | (with_reducible first | exact HK.out | apply yag | apply yal | apply yao | apply yam | refine yas ?_ GW101.out _) | exact HK.out)) hk (.inl rfl)); have n3_ := yaa (hb); have n4_ := yaa (hi); clear BK101; clear HK; clear HB; clear HI0; have BK101 := n0_; have HO104 := n1_; have HK := n2_; have HB := n3_; have HI0 := n4_; clear n0_ n1_ n2_ n3_ n4_; (try clear hb); (try clear hb2); (try clear hk); (try clear hi); (try clear ho0)) | ((with_reducible refine ybd (f := 124) rfl ?_); refine goesL_ (some 9) rfl rfl Try.func124 (by kernel_rfl) rfl #[.pointer (some ⟨g, 0, none⟩)] rfl (by (try simp only [List.map_toArray, List.map_cons, List.map_nil]); first | done | rfl | (simp only [List.length_drop, List.length_take]; rfl)) ?_; (with_reducible refine (spec_l20Path.calls k g s0_0 t105 t106 t107 w0 _ ?side1 ?side2 A4.out).mono ?_); (case side1 => repeat (first | (with_reducible first | exact HI0.out | apply yab | apply yac | apply yaf | apply yad | refine yae ?_ NB0_101.out _) | exact HI0.out)); (case side2 => repeat (first | (with_reducible first | exact HB.out | apply yav | apply yan | apply yau | refine yai ?_ (yaz HI0.out) | refine yai ?_ GE101.out) | exact HB.out)); rintro e w44 ⟨rfl, hi, hb, hk⟩; refine ⟨_, rfl, ?_⟩; have n0_ := yaa (yay hk (g' := gb101) (o := .cells #[.slice none 0 0, .string (⟨#[]⟩ : ByteArray), .int .i64 0] 42 (0, 0)) (by (with_reducible repeat (first | refine yaj ?_ _ | refine yak ?_ | refine yah ?_ _)); exact BK101.out) NB101_0.out (by simp)); have n1_ := yaa (yax (ybc (yaw (show ybg w0 _ g s0_0 t105 from by repeat (first | (with_reducible first | exact HI0.out | apply yab | apply yac | apply yaf | apply yad | refine yae ?_ NB0_101.out _) | exact HI0.out)) (by (with_reducible repeat (first | apply yap | apply yaq | apply yat)); exact HO104.out) (by decide)) hk (fun _ h => h.2)) (fun _ h => h.1)); have n2_ := yaa (yar (by repeat (first | (with_reducible first | exact HK.out | apply yag | apply yal | apply yao | apply yam | refine yas ?_ GW101.out _) | exact HK.out)) hk (.inl rfl)); have n3_ := yaa (hb); have n4_ := yaa (hi); clear BK101; clear HO104; clear HK; clear HB; clear HI0; have BK101 := n0_; have HO104 := n1_; have HK := n2_; have HB := n3_; have HI0 := n4_; clear n0_ n1_ n2_ n3_ n4_; (try clear hb); (try clear hb2); (try clear hk); (try clear hi)) | ((with_reducible refine ybd (f := 116) rfl ?_); refine goesL_ (some 11) rfl rfl Try.func116 (by kernel_rfl) rfl #[.pointer (some ⟨g, 0, none⟩), .int .i64 80] rfl (by (try simp only [List.map_toArray, List.map_cons, List.map_nil]); first | done | rfl | (simp only [List.length_drop, List.length_take]; rfl)) ?_; (with_reducible refine (spec_l20Rd_pick.calls k g s0_0 t107 80 t108 t109 w0 _ ?side1 ?side2 A5.out).mono ?_); (case side1 => repeat (first | (with_reducible first | exact HI0.out | apply yab | apply yac | apply yaf | apply yad | refine yae ?_ NB0_101.out _) | exact HI0.out)); (case side2 => repeat (first | (with_reducible first | exact HB.out | apply yav | apply yan | apply yau | refine yai ?_ (yaz HI0.out) | refine yai ?_ GE101.out) | exact HB.out)); rintro e w45 ⟨rfl, hi, hb, hk⟩; refine ⟨_, rfl, ?_⟩; have n0_ := yaa (yay hk (g' := gb101) (o := .cells #[.slice none 0 0, .string (⟨#[]⟩ : ByteArray), .int .i64 0] 42 (0, 0)) (by (with_reducible repeat (first | refine yaj ?_ _ | refine yak ?_ | refine yah ?_ _)); exact BK101.out) NB101_0.out (by simp)); have n1_ := yaa (yax (ybc (yaw (show ybg w0 _ g s0_0 t107 from by repeat (first | (with_reducible first | exact HI0.out | apply yab | apply yac | apply yaf | apply yad | refine yae ?_ NB0_101.out _) | exact HI0.out)) (by (with_reducible repeat (first | apply yap | apply yaq | apply yat)); exact HO104.out) (by decide)) hk (fun _ h => h.2)) (fun _ h => h.1)); have n2_ := yaa (yar (by repeat (first | (with_reducible first | exact HK.out | apply yag | apply yal | apply yao | apply yam | refine yas ?_ GW101.out _) | exact HK.out)) hk (.inl rfl)); have n3_ := yaa (hb); have n4_ := yaa (hi); clear BK101; clear HO104; clear HK; clear HB; clear HI0; have BK101 := n0_; have HO104 := n1_; have HK := n2_; have HB := n3_; have HI0 := n4_; clear n0_ n1_ n2_ n3_ n4_; (try clear hb); (try clear hb2); (try clear hk); (try clear hi)) | ((with_reducible refine gate_dst (N := 12) rfl ?_); refine Kd.R_lit (Kd.int .i64) _ 3 ?hg (N := 12) ?hd (xs := ([9999, t108] : List Int)) (inner := [.int .i64 9999, .int .i64 t108]) (ok := fun _ => True) (okp := fun _ => True) ?hr ?hp (fun _ hk => hk) trivial (Below.refl _ _) (Nat.le_refl _) (by simp) ?_; (case hd => rfl); (case hg => rfl); (case hr => first | (go_simp; done) | (go_simp; rfl)); (case hp => exact (Reps.one (show Kd.M (Kd.int .i64) _ _ _ 9999 [.int .i64 9999] from rfl) (Reps.one (show Kd.M (Kd.int .i64) _ _ _ t108 [.int .i64 t108] from rfl) (Reps.none _ _)))); intro v111 w46 ho47 hb hg_ hnew_; clear hg_ hnew_; (first | rw [← Ny110.out] at ho47 | (simp only [Int.reduceToNat] at ho47; rw [← Ny110.out] at ho47)); have n0_ := yaa (ybj (by (with_reducible repeat (first | apply yap | apply yaq | apply yat)); exact HO104.out) hb); have n1_ := yaa (Kd.R_lower ho47 (ybh (w := w) (g := g) (row := none) (by repeat (first | (with_reducible first | exact HK.out | apply yag | apply yal | apply yao | apply yam | refine yas ?_ GW101.out _) | exact HK.out)))); have n2_ := yaa (ybi (by repeat (first | (with_reducible first | exact HI0.out | apply yab | apply yac | apply yaf | apply yad | refine yae ?_ NB0_101.out _) | exact HI0.out)) hb); have n3_ := yaa (blk_below (g := gb101) (o := .cells #[.slice none 0 0, .string (⟨#[]⟩ : ByteArray), .int .i64 0] 42 (0, 0)) (by (with_reducible repeat (first | refine yaj ?_ _ | refine yak ?_ | refine yah ?_ _)); exact BK101.out) hb); have n4_ := yaa (yar (by repeat (first | (with_reducible first | exact HK.out | apply yag | apply yal | apply yao | apply yam | refine yas ?_ GW101.out _) | exact HK.out)) (ybf hb g none) (.inl rfl)); have n5_ := yaa (below_step (by repeat (first | (with_reducible first | exact HB.out | apply yav | apply yan | apply yau | refine yai ?_ (yaz HI0.out) | refine yai ?_ GE101.out) | exact HB.out)) hb); clear HO104; clear HI0; clear BK101; clear HK; clear HB; have HO104 := n0_; have HO112 := n1_; have HI0 := n2_; have BK101 := n3_; have HK := n4_; have HB := n5_; clear n0_ n1_ n2_ n3_ n4_ n5_; clear hb ho47) | ((with_reducible refine ybd (f := 116) rfl ?_); refine goesL_ (some 14) rfl rfl Try.func116 (by kernel_rfl) rfl #[.pointer (some ⟨g, 0, none⟩), .int .i64 2] rfl (by (try simp only [List.map_toArray, List.map_cons, List.map_nil]); first | done | rfl | (simp only [List.length_drop, List.length_take]; rfl)) ?_; (with_reducible refine (spec_l20Rd_pick.calls k g s0_0 t109 2 t113 t114 w0 _ ?side1 ?side2 A6.out).mono ?_); (case side1 => repeat (first | (with_reducible first | exact HI0.out | apply yab | apply yac | apply yaf | apply yad | refine yae ?_ NB0_101.out _) | exact HI0.out)); (case side2 => repeat (first | (with_reducible first | exact HB.out | apply yav | apply yan | apply yau | refine yai ?_ (yaz HI0.out) | refine yai ?_ GE101.out) | exact HB.out)); rintro e w48 ⟨rfl, hi, hb, hk⟩; refine ⟨_, rfl, ?_⟩; have n0_ := yaa (yay hk (g' := gb101) (o := .cells #[.slice none 0 0, .string (⟨#[]⟩ : ByteArray), .int .i64 0] 42 (0, 0)) (by (with_reducible repeat (first | refine yaj ?_ _ | refine yak ?_ | refine yah ?_ _)); exact BK101.out) NB101_0.out (by simp)); have n1_ := yaa (yax (ybc (yaw (show ybg w0 _ g s0_0 t109 from by repeat (first | (with_reducible first | exact HI0.out | apply yab | apply yac | apply yaf | apply yad | refine yae ?_ NB0_101.out _) | exact HI0.out)) (by (with_reducible repeat (first | apply yap | apply yaq | apply yat)); exact HO104.out) (by decide)) hk (fun _ h => h.2)) (fun _ h => h.1)); have n2_ := yaa (yax (ybc (yaw (show ybg w0 _ g s0_0 t109 from by repeat (first | (with_reducible first | exact HI0.out | apply yab | apply yac | apply yaf | apply yad | refine yae ?_ NB0_101.out _) | exact HI0.out)) (by (with_reducible repeat (first | apply yap | apply yaq | apply yat)); exact HO112.out) (by decide)) hk (fun _ h => h.2)) (fun _ h => h.1)); have n3_ := yaa (yar (by repeat (first | (with_reducible first | exact HK.out | apply yag | apply yal | apply yao | apply yam | refine yas ?_ GW101.out _) | exact HK.out)) hk (.inl rfl)); have n4_ := yaa (hb); have n5_ := yaa (hi); clear BK101; clear HO104; clear HO112; clear HK; clear HB; clear HI0; have BK101 := n0_; have HO104 := n1_; have HO112 := n2_; have HK := n3_; have HB := n4_; have HI0 := n5_; clear n0_ n1_ n2_ n3_ n4_ n5_; (try clear hb); (try clear hb2); (try clear hk); (try clear hi); obtain ⟨Ao49, co49, eo49⟩ := Kd.R_slice HO112.out; subst eo49; have p115 : 0 ≤ (t113 : Int) := of_decide_eq_true (by first | (with_reducible assumption) | assumption); have q115 : t113 < (y110.length : Int) := of_decide_eq_true (by first | (with_reducible assumption) | assumption); obtain ⟨ad115, e115, hx115_0⟩ := Kd.at_int (Kd.R_reads' HO112.out).2.2 t113 p115 q115; cases e115; replace p115 := eq_true p115; replace q115 := eq_true q115; obtain ⟨Ao50, co50, eo50⟩ := Kd.R_slice HO104.out; subst eo50) | ((with_reducible refine gate_dst (N := 5) rfl ?_); refine box_event ?hg (N := 5) ?hd (cs := #[.slice none 0 0, .string (⟨#[]⟩ : ByteArray), .int .i64 0]) (t := 42) ?hr ?_; (case hd => rfl); (case hg => rfl); (case hr => first | (go_simp; done) | (go_simp; rfl)); intro gb116 hg w51 hbox hb; have n0_ := yaa (ybj (by (with_reducible repeat (first | apply yap | apply yaq | apply yat)); exact HO104.out) hb); have n1_ := yaa (ybj (by (with_reducible repeat (first | apply yap | apply yaq | apply yat)); exact HO112.out) hb); have n2_ := yaa (ybi (by repeat (first | (with_reducible first | exact HI0.out | apply yab | apply yac | apply yaf | apply yad | refine yae ?_ NB0_101.out _) | exact HI0.out)) hb); have n3_ := yaa (blk_below (g := gb101) (o := .cells #[.slice none 0 0, .string (⟨#[]⟩ : ByteArray), .int .i64 0] 42 (0, 0)) (by (with_reducible repeat (first | refine yaj ?_ _ | refine yak ?_ | refine yah ?_ _)); exact BK101.out) hb); have n4_ := yaa (yar (by repeat (first | (with_reducible first | exact HK.out | apply yag | apply yal | apply yao | apply yam | refine yas ?_ GW101.out _) | exact HK.out)) (ybf hb g none) (.inl rfl)); have n5_ := yaa (below_step (by repeat (first | (with_reducible first | exact HB.out | apply yav | apply yan | apply yau | refine yai ?_ (yaz HI0.out) | refine yai ?_ GE101.out) | exact HB.out)) hb); have n6_ := yaa (hbox); have n7_ := yaa ((by rw [hg]; exact (ybh (w := w) (g := g) (row := none) (by repeat (first | (with_reducible first | exact HK.out | apply yag | apply yal | apply yao | apply yam | refine yas ?_ GW101.out _) | exact HK.out))) : w.heap.size ≤ gb116)); have n8_ := yaa ((Nat.le_trans HW0.out (by rw [hg]; exact (ybh (w := w) (g := g) (row := none) (by repeat (first | (with_reducible first | exact HK.out | apply yag | apply yal | apply yao | apply yam | refine yas ?_ GW101.out _) | exact HK.out))) : w.heap.size ≤ gb116) : w0.heap.size ≤ gb116)); have n9_ := yaa ((by rw [hg]; exact Nat.ne_of_lt (blk_lt (g := gb101) (o := .cells #[.slice none 0 0, .string (⟨#[]⟩ : ByteArray), .int .i64 0] 42 (0, 0)) (by (with_reducible repeat (first | refine yaj ?_ _ | refine yak ?_ | refine yah ?_ _)); exact BK101.out)) : gb101 ≠ gb116)); have n10_ := yaa ((by rw [hg]; exact Nat.ne_of_gt (blk_lt (g := gb101) (o := .cells #[.slice none 0 0, .string (⟨#[]⟩ : ByteArray), .int .i64 0] 42 (0, 0)) (by (with_reducible repeat (first | refine yaj ?_ _ | refine yak ?_ | refine yah ?_ _)); exact BK101.out)) : gb116 ≠ gb101)); have n11_ := yaa ((by rw [hg]; exact Nat.ne_of_lt (IsS143.lt (show ybg w0 _ g s0_0 t114 from by repeat (first | (with_reducible first | exact HI0.out | apply yab | apply yac | apply yaf | apply yad | refine yae ?_ NB0_101.out _) | exact HI0.out))) : g ≠ gb116)); have n12_ := yaa ((by rw [hg]; exact Nat.ne_of_gt (IsS143.lt (show ybg w0 _ g s0_0 t114 from by repeat (first | (with_reducible first | exact HI0.out | apply yab | apply yac | apply yaf | apply yad | refine yae ?_ NB0_101.out _) | exact HI0.out))) : gb116 ≠ g)); clear HO104; clear HO112; clear HI0; clear BK101; clear HK; clear HB; have HO104 := n0_; have HO112 := n1_; have HI0 := n2_; have BK101 := n3_; have HK := n4_; have HB := n5_; have BK116 := n6_; have GW116 := n7_; have GE116 := n8_; have NB101_116 := n9_; have NB116_101 := n10_; have NB0_116 := n11_; have NB116_0 := n12_; clear n0_ n1_ n2_ n3_ n4_ n5_ n6_ n7_ n8_ n9_ n10_ n11_ n12_; clear hb hbox hg; have hnb52 := NB116_101.out; have hnc52 := NB101_116.out; have hnb53 := NB116_0.out; have hnc53 := NB0_116.out; have hcz54_0 : w51.cell? ⟨gb116, 0, none⟩ = some (.slice none 0 0) := (ybb BK116.out 0).trans rfl; have hcz54_1 : w51.cell? ⟨gb116, 1, none⟩ = some (.string (⟨#[]⟩ : ByteArray)) := (ybb BK116.out 1).trans rfl; have hcz54_2 : w51.cell? ⟨gb116, 2, none⟩ = some (.int .i64 0) := (ybb BK116.out 2).trans rfl; have hfz54_0 := yba BK116.out 0; have hfz54_1 := yba BK116.out 1; have hfz54_2 := yba BK116.out 2) | ((with_reducible refine ybd (f := 117) rfl ?_); refine goesL_ (some 20) rfl rfl Try.func117 (by kernel_rfl) rfl #[.pointer (some ⟨g, 0, none⟩), .int .i64 a1] rfl (by (try simp only [List.map_toArray, List.map_cons, List.map_nil]); first | done | rfl | (simp only [List.length_drop, List.length_take]; rfl)) ?_; (with_reducible refine (spec_l20Rd_odd.calls k g s0_0 t114 a1 true t118 w0 _ ?side1 ?side2 A9.out).mono ?_); (case side1 => repeat (first | (with_reducible first | exact HI0.out | apply yab | apply yac | apply yaf | apply yad | refine yae ?_ NB0_101.out _ | refine yae ?_ NB0_116.out _) | exact HI0.out)); (case side2 => repeat (first | (with_reducible first | exact HB.out | apply yav | apply yan | apply yau | refine yai ?_ (yaz HI0.out) | refine yai ?_ GE101.out | refine yai ?_ GE116.out) | exact HB.out)); rintro e w55 ⟨rfl, hi, hb, hk⟩; refine ⟨_, rfl, ?_⟩; have n0_ := yaa (yay hk (g' := gb101) (o := .cells #[.slice none 0 0, .string (⟨#[]⟩ : ByteArray), .int .i64 0] 42 (0, 0)) (by (with_reducible repeat (first | refine yaj ?_ _ | refine yak ?_ | refine yah ?_ _)); refine blk_far ?_ NB101_116.out _; (with_reducible repeat (first | refine yaj ?_ _ | refine yak ?_ | refine yah ?_ _)); refine blk_far ?_ NB101_116.out _; (with_reducible repeat (first | refine yaj ?_ _ | refine yak ?_ | refine yah ?_ _)); refine blk_far ?_ NB101_116.out _; (with_reducible repeat (first | refine yaj ?_ _ | refine yak ?_ | refine yah ?_ _)); exact BK101.out) NB101_0.out (by simp)); have n1_ := yaa (yax (ybc (yaw (show ybg w0 _ g s0_0 t114 from by repeat (first | (with_reducible first | exact HI0.out | apply yab | apply yac | apply yaf | apply yad | refine yae ?_ NB0_101.out _ | refine yae ?_ NB0_116.out _) | exact HI0.out)) (by (with_reducible repeat (first | apply yap | apply yaq | apply yat)); exact (yax (ybe (p := ⟨gb116, 2, none⟩) (ybe (p := ⟨gb116, 1, none⟩) (ybe (p := ⟨gb116, 0, none⟩) (ybk HO104.out BK116.out (by decide)) (fun _ hk => hk.2) (.slice Ao50 t102.length co50)) (fun _ hk => hk.2) (.string t106)) (fun _ hk => hk.2) (.int .i64 (rd y110 t113))) (fun _ h_ => h_.1))) (by decide)) hk (fun _ h => h.2)) (fun _ h => h.1)); have n2_ := yaa (yax (ybc (yaw (show ybg w0 _ g s0_0 t114 from by repeat (first | (with_reducible first | exact HI0.out | apply yab | apply yac | apply yaf | apply yad | refine yae ?_ NB0_101.out _ | refine yae ?_ NB0_116.out _) | exact HI0.out)) (by (with_reducible repeat (first | apply yap | apply yaq | apply yat)); exact (yax (ybe (p := ⟨gb116, 2, none⟩) (ybe (p := ⟨gb116, 1, none⟩) (ybe (p := ⟨gb116, 0, none⟩) (ybk HO112.out BK116.out (by decide)) (fun _ hk => hk.2) (.slice Ao50 t102.length co50)) (fun _ hk => hk.2) (.string t106)) (fun _ hk => hk.2) (.int .i64 (rd y110 t113))) (fun _ h_ => h_.1))) (by decide)) hk (fun _ h => h.2)) (fun _ h => h.1)); have n3_ := yaa (yay hk (g' := gb116) (o := .cells #[.slice Ao50 t102.length co50, .string t106, .int .i64 (rd y110 t113)] 42 (0, 0)) (by (with_reducible repeat (first | refine yaj ?_ _ | refine yak ?_ | refine yah ?_ _)); refine blk_put (cs := #[.slice Ao50 t102.length co50, .string t106, .int .i64 0]) ?_ 2 _ rfl; (with_reducible repeat (first | refine yaj ?_ _ | refine yak ?_ | refine yah ?_ _)); refine blk_put (cs := #[.slice Ao50 t102.length co50, .string (⟨#[]⟩ : ByteArray), .int .i64 0]) ?_ 1 _ rfl; (with_reducible repeat (first | refine yaj ?_ _ | refine yak ?_ | refine yah ?_ _)); refine blk_put (cs := #[.slice none 0 0, .string (⟨#[]⟩ : ByteArray), .int .i64 0]) ?_ 0 _ rfl; (with_reducible repeat (first | refine yaj ?_ _ | refine yak ?_ | refine yah ?_ _)); exact BK116.out) NB116_0.out (by simp)); have n4_ := yaa (yar (by repeat (first | (with_reducible first | exact HK.out | apply yag | apply yal | apply yao | apply yam | refine yas ?_ GW101.out _ | refine yas ?_ GW116.out _) | exact HK.out)) hk (.inl rfl)); have n5_ := yaa (hb); have n6_ := yaa (hi); clear BK101; clear HO104; clear HO112; clear BK116; clear HK; clear HB; clear HI0; have BK101 := n0_; have HO104 := n1_; have HO112 := n2_; have BK116 := n3_; have HK := n4_; have HB := n5_; have HI0 := n6_; clear n0_ n1_ n2_ n3_ n4_ n5_ n6_; (try clear hb); (try clear hb2); (try clear hk); (try clear hi)) | ((with_reducible refine ybd (f := 116) rfl ?_); refine goesL_ (some 22) rfl rfl Try.func116 (by kernel_rfl) rfl #[.pointer (some ⟨g, 0, none⟩), .int .i64 3] rfl (by (try simp only [List.map_toArray, List.map_cons, List.map_nil]); first | done | rfl | (simp only [List.length_drop, List.length_take]; rfl)) ?_; (with_reducible refine (spec_l20Rd_pick.calls k g s0_0 t118 3 t119 t120 w0 _ ?side1 ?side2 A11.out).mono ?_); (case side1 => repeat (first | (with_reducible first | exact HI0.out | apply yab | apply yac | apply yaf | apply yad | refine yae ?_ NB0_101.out _ | refine yae ?_ NB0_116.out _) | exact HI0.out)); (case side2 => repeat (first | (with_reducible first | exact HB.out | apply yav | apply yan | apply yau | refine yai ?_ (yaz HI0.out) | refine yai ?_ GE101.out | refine yai ?_ GE116.out) | exact HB.out)); rintro e w56 ⟨rfl, hi, hb, hk⟩; refine ⟨_, rfl, ?_⟩; have n0_ := yaa (yay hk (g' := gb101) (o := .cells #[.slice none 0 0, .string (⟨#[]⟩ : ByteArray), .int .i64 0] 42 (0, 0)) (by (with_reducible repeat (first | refine yaj ?_ _ | refine yak ?_ | refine yah ?_ _)); exact BK101.out) NB101_0.out (by simp)); have n1_ := yaa (yax (ybc (yaw (show ybg w0 _ g s0_0 t118 from by repeat (first | (with_reducible first | exact HI0.out | apply yab | apply yac | apply yaf | apply yad | refine yae ?_ NB0_101.out _ | refine yae ?_ NB0_116.out _) | exact HI0.out)) (by (with_reducible repeat (first | apply yap | apply yaq | apply yat)); exact HO104.out) (by decide)) hk (fun _ h => h.2)) (fun _ h => h.1)); have n2_ := yaa (yax (ybc (yaw (show ybg w0 _ g s0_0 t118 from by repeat (first | (with_reducible first | exact HI0.out | apply yab | apply yac | apply yaf | apply yad | refine yae ?_ NB0_101.out _ | refine yae ?_ NB0_116.out _) | exact HI0.out)) (by (with_reducible repeat (first | apply yap | apply yaq | apply yat)); exact HO112.out) (by decide)) hk (fun _ h => h.2)) (fun _ h => h.1)); have n3_ := yaa (yay hk (g' := gb116) (o := .cells #[.slice Ao50 t102.length co50, .string t106, .int .i64 (rd y110 t113)] 42 (0, 0)) (by (with_reducible repeat (first | refine yaj ?_ _ | refine yak ?_ | refine yah ?_ _)); exact BK116.out) NB116_0.out (by simp)); have n4_ := yaa (yar (by repeat (first | (with_reducible first | exact HK.out | apply yag | apply yal | apply yao | apply yam | refine yas ?_ GW101.out _ | refine yas ?_ GW116.out _) | exact HK.out)) hk (.inl rfl)); have n5_ := yaa (hb); have n6_ := yaa (hi); clear BK101; clear HO104; clear HO112; clear BK116; clear HK; clear HB; clear HI0; have BK101 := n0_; have HO104 := n1_; have HO112 := n2_; have BK116 := n3_; have HK := n4_; have HB := n5_; have HI0 := n6_; clear n0_ n1_ n2_ n3_ n4_ n5_ n6_; (try clear hb); (try clear hb2); (try clear hk); (try clear hi)) | ((with_reducible refine gate_dst (N := 40) rfl ?_); refine Kd.R_lit (Kd.int .i64) _ 3 ?hg (N := 40) ?hd (xs := ([(-1), 10000] : List Int)) (inner := [.int .i64 (-1), .int .i64 10000]) (ok := fun _ => True) (okp := fun _ => True) ?hr ?hp (fun _ hk => hk) trivial (Below.refl _ _) (Nat.le_refl _) (by simp) ?_; (case hd => rfl); (case hg => rfl); (case hr => first | (go_simp; done) | (go_simp; rfl)); (case hp => exact (Reps.one (show Kd.M (Kd.int .i64) _ _ _ (-1) [.int .i64 (-1)] from rfl) (Reps.one (show Kd.M (Kd.int .i64) _ _ _ 10000 [.int .i64 10000] from rfl) (Reps.none _ _)))); intro v128 w57 ho58 hb hg_ hnew_; clear hg_ hnew_; (first | rw [← Ny127.out] at ho58 | (simp only [Int.reduceToNat] at ho58; rw [← Ny127.out] at ho58)); have n0_ := yaa (ybj (by (with_reducible repeat (first | apply yap | apply yaq | apply yat)); exact HO104.out) hb); have n1_ := yaa (Kd.R_elder' (by (with_reducible repeat (first | apply yap | apply yaq | apply yat)); exact HO112.out) (Kd.R_base ho58) hb); have n2_ := yaa (Kd.R_lower (Kd.R_new' ho58 (Kd.R_lt (by (with_reducible repeat (first | apply yap | apply yaq | apply yat)); exact HO112.out))) (ybh (w := w) (g := g) (row := none) (by repeat (first | (with_reducible first | exact HK.out | apply yag | apply yal | apply yao | apply yam | refine yas ?_ GW101.out _ | refine yas ?_ GW116.out _) | exact HK.out)))); have n3_ := yaa (ybi (by repeat (first | (with_reducible first | exact HI0.out | apply yab | apply yac | apply yaf | apply yad | refine yae ?_ NB0_101.out _ | refine yae ?_ NB0_116.out _) | exact HI0.out)) hb); have n4_ := yaa (blk_below (g := gb101) (o := .cells #[.slice none 0 0, .string (⟨#[]⟩ : ByteArray), .int .i64 0] 42 (0, 0)) (by (with_reducible repeat (first | refine yaj ?_ _ | refine yak ?_ | refine yah ?_ _)); exact BK101.out) hb); have n5_ := yaa (blk_below (g := gb116) (o := .cells #[.slice Ao50 t102.length co50, .string t106, .int .i64 (rd y110 t113)] 42 (0, 0)) (by (with_reducible repeat (first | refine yaj ?_ _ | refine yak ?_ | refine yah ?_ _)); exact BK116.out) hb); have n6_ := yaa (yar (by repeat (first | (with_reducible first | exact HK.out | apply yag | apply yal | apply yao | apply yam | refine yas ?_ GW101.out _ | refine yas ?_ GW116.out _) | exact HK.out)) (ybf hb g none) (.inl rfl)); have n7_ := yaa (below_step (by repeat (first | (with_reducible first | exact HB.out | apply yav | apply yan | apply yau | refine yai ?_ (yaz HI0.out) | refine yai ?_ GE101.out | refine yai ?_ GE116.out) | exact HB.out)) hb); clear HO104; clear HO112; clear HI0; clear BK101; clear BK116; clear HK; clear HB; have HO104 := n0_; have HO112 := n1_; have HO129 := n2_; have HI0 := n3_; have BK101 := n4_; have BK116 := n5_; have HK := n6_; have HB := n7_; clear n0_ n1_ n2_ n3_ n4_ n5_ n6_ n7_; clear hb ho58) | ((with_reducible refine ybd (f := 116) rfl ?_); refine goesL_ (some 42) rfl rfl Try.func116 (by kernel_rfl) rfl #[.pointer (some ⟨g, 0, none⟩), .int .i64 2] rfl (by (try simp only [List.map_toArray, List.map_cons, List.map_nil]); first | done | rfl | (simp only [List.length_drop, List.length_take]; rfl)) ?_; (with_reducible refine (spec_l20Rd_pick.calls k g s0_0 t120 2 t130 t131 w0 _ ?side1 ?side2 A39.out).mono ?_); (case side1 => repeat (first | (with_reducible first | exact HI0.out | apply yab | apply yac | apply yaf | apply yad | refine yae ?_ NB0_101.out _ | refine yae ?_ NB0_116.out _) | exact HI0.out)); (case side2 => repeat (first | (with_reducible first | exact HB.out | apply yav | apply yan | apply yau | refine yai ?_ (yaz HI0.out) | refine yai ?_ GE101.out | refine yai ?_ GE116.out) | exact HB.out)); rintro e w59 ⟨rfl, hi, hb, hk⟩; refine ⟨_, rfl, ?_⟩; have n0_ := yaa (yay hk (g' := gb101) (o := .cells #[.slice none 0 0, .string (⟨#[]⟩ : ByteArray), .int .i64 0] 42 (0, 0)) (by (with_reducible repeat (first | refine yaj ?_ _ | refine yak ?_ | refine yah ?_ _)); exact BK101.out) NB101_0.out (by simp)); have n1_ := yaa (yax (ybc (yaw (show ybg w0 _ g s0_0 t120 from by repeat (first | (with_reducible first | exact HI0.out | apply yab | apply yac | apply yaf | apply yad | refine yae ?_ NB0_101.out _ | refine yae ?_ NB0_116.out _) | exact HI0.out)) (by (with_reducible repeat (first | apply yap | apply yaq | apply yat)); exact HO104.out) (by decide)) hk (fun _ h => h.2)) (fun _ h => h.1)); have n2_ := yaa (yax (ybc (yaw (show ybg w0 _ g s0_0 t120 from by repeat (first | (with_reducible first | exact HI0.out | apply yab | apply yac | apply yaf | apply yad | refine yae ?_ NB0_101.out _ | refine yae ?_ NB0_116.out _) | exact HI0.out)) (by (with_reducible repeat (first | apply yap | apply yaq | apply yat)); exact HO112.out) (by decide)) hk (fun _ h => h.2)) (fun _ h => h.1)); have n3_ := yaa (yay hk (g' := gb116) (o := .cells #[.slice Ao50 t102.length co50, .string t106, .int .i64 (rd y110 t113)] 42 (0, 0)) (by (with_reducible repeat (first | refine yaj ?_ _ | refine yak ?_ | refine yah ?_ _)); exact BK116.out) NB116_0.out (by simp)); have n4_ := yaa (yax (ybc (yaw (show ybg w0 _ g s0_0 t120 from by repeat (first | (with_reducible first | exact HI0.out | apply yab | apply yac | apply yaf | apply yad | refine yae ?_ NB0_101.out _ | refine yae ?_ NB0_116.out _) | exact HI0.out)) (by (with_reducible repeat (first | apply yap | apply yaq | apply yat)); exact HO129.out) (by decide)) hk (fun _ h => h.2)) (fun _ h => h.1)); have n5_ := yaa (yar (by repeat (first | (with_reducible first | exact HK.out | apply yag | apply yal | apply yao | apply yam | refine yas ?_ GW101.out _ | refine yas ?_ GW116.out _) | exact HK.out)) hk (.inl rfl)); have n6_ := yaa (hb); have n7_ := yaa (hi); clear BK101; clear HO104; clear HO112; clear BK116; clear HO129; clear HK; clear HB; clear HI0; have BK101 := n0_; have HO104 := n1_; have HO112 := n2_; have BK116 := n3_; have HO129 := n4_; have HK := n5_; have HB := n6_; have HI0 := n7_; clear n0_ n1_ n2_ n3_ n4_ n5_ n6_ n7_; (try clear hb); (try clear hb2); (try clear hk); (try clear hi); obtain ⟨Ao60, co60, eo60⟩ := Kd.R_slice HO129.out; subst eo60; have p132 : 0 ≤ (t130 : Int) := of_decide_eq_true (by first | (with_reducible assumption) | assumption); have q132 : t130 < (y127.length : Int) := of_decide_eq_true (by first | (with_reducible assumption) | assumption); obtain ⟨ad132, e132, hx132_0⟩ := Kd.at_int (Kd.R_reads' HO129.out).2.2 t130 p132 q132; cases e132; replace p132 := eq_true p132; replace q132 := eq_true q132; have hcz61_0 : w59.cell? ⟨gb116, 0, none⟩ = some (.slice Ao50 t102.length co50) := (ybb BK116.out 0).trans rfl; have hcz61_1 : w59.cell? ⟨gb116, 1, none⟩ = some (.string t106) := (ybb BK116.out 1).trans rfl; have hcz61_2 : w59.cell? ⟨gb116, 2, none⟩ = some (.int .i64 (rd y110 t113)) := (ybb BK116.out 2).trans rfl; have hfz61_0 := yba BK116.out 0; have hfz61_1 := yba BK116.out 1; have hfz61_2 := yba BK116.out 2; have hnb62 := NB101_0.out; have hnc62 := NB0_101.out; have hcz63_0 : w59.cell? ⟨gb101, 0, none⟩ = some (.slice none 0 0) := (ybb BK101.out 0).trans rfl; have hcz63_1 : w59.cell? ⟨gb101, 1, none⟩ = some (.string (⟨#[]⟩ : ByteArray)) := (ybb BK101.out 1).trans rfl; have hcz63_2 : w59.cell? ⟨gb101, 2, none⟩ = some (.int .i64 0) := (ybb BK101.out 2).trans rfl; have hfz63_0 := yba BK101.out 0; have hfz63_1 := yba BK101.out 1; have hfz63_2 := yba BK101.out 2))
        refine bodyPost_ret (results_cell_row rfl _ _ gb101 42 #[.slice Ao50 t102.length co50, .string t106, .int .i64 (rd y127 t130)] (0, 0) _ rfl (by (with_reducible repeat (first | refine yaj ?_ _ | refine yak ?_ | refine yah ?_ _)); refine blk_put (cs := #[.slice Ao50 t102.length co50, .string t106, .int .i64 0]) ?_ 2 _ rfl; (with_reducible repeat (first | refine yaj ?_ _ | refine yak ?_ | refine yah ?_ _)); refine blk_put (cs := #[.slice Ao50 t102.length co50, .string (⟨#[]⟩ : ByteArray), .int .i64 0]) ?_ 1 _ rfl; (with_reducible repeat (first | refine yaj ?_ _ | refine yak ?_ | refine yah ?_ _)); refine blk_put (cs := #[.slice none 0 0, .string (⟨#[]⟩ : ByteArray), .int .i64 0]) ?_ 0 _ rfl; (with_reducible repeat (first | refine yaj ?_ _ | refine yak ?_ | refine yah ?_ _)); refine blk_far ?_ NB101_116.out _; (with_reducible repeat (first | refine yaj ?_ _ | refine yak ?_ | refine yah ?_ _)); exact BK101.out) Try.underlying42 rfl (by kernel_rfl)) rfl ?_
        exact ⟨_, by first | rfl | (simp [errW_none, errW_some] <;> rfl) | (simp [*, errW_none, errW_some] <;> rfl), by (with_reducible repeat (first | apply yap | apply yaq | apply yat)); exact yax (ybe (p := ⟨gb101, 2, none⟩) (ybe (p := ⟨gb101, 1, none⟩) (ybe (p := ⟨gb101, 0, none⟩) (ybe (p := ⟨gb116, 2, none⟩) (ybk (ybk HO104.out BK116.out (by decide)) BK101.out (by decide)) (fun _ hk => hk.1.2) (.int .i64 (rd y127 t130))) (fun _ hk => hk.2) (.slice Ao50 t102.length co50)) (fun _ hk => hk.2) (.string t106)) (fun _ hk => hk.2) (.int .i64 (rd y127 t130))) (fun _ hk => trivial), by repeat (first | (with_reducible first | exact HI0.out | apply yab | apply yac | apply yaf | apply yad | refine yae ?_ NB0_101.out _ | refine yae ?_ NB0_116.out _) | exact HI0.out), by repeat (first | (with_reducible first | exact HB.out | apply yav | apply yan | apply yau | refine yai ?_ (yaz HI0.out) | refine yai ?_ GE101.out | refine yai ?_ GE116.out) | exact HB.out), by repeat (first | (with_reducible first | exact HK.out | apply yag | apply yal | apply yao | apply yam | refine yas ?_ GW101.out _ | refine yas ?_ GW116.out _) | exact HK.out)⟩
       ·
        rw [if_neg c41] at H
        exact absurd H (by simp)
      ·
       rw [if_neg c40] at H
       exact absurd H (by simp)
     ·
      rw [if_neg c38] at H
      have c38b0 : (t119 == 1) = false := beq_eq_false_iff_ne.mpr c38
      have c38b1 : (t119 != 1) = true := bne_iff_ne.mpr c38
      replace H := Option.bind_eq_some_iff.mp H
      obtain ⟨⟨t133, t134, t135, t136, t137, t138⟩, A640, H⟩ := H
      replace H : (if t102.length < 3518437208883 then (some ((t102 ++ [(⟨t133, t134, t135, t136, t137⟩ : S146)]), t106, rd y110 t113, t138)) else (none)) = some (r1, r2, r3, r4) := H
      have A64 := yaa A640
      clear A640
      by_cases c65 : t102.length < 3518437208883
      ·
       rw [if_pos c65] at H
       have LMc65 := yaa c65
       clear c65
       obtain ⟨y139, hy139⟩ : ∃ y_ : List (S146), y_ = (t102 ++ [(⟨t133, t134, t135, t136, t137⟩ : S146)]) := ⟨_, rfl⟩
       replace H : (some (y139, t106, rd y110 t113, t138)) = some (r1, r2, r3, r4) := by first | (rw [hy139]; with_reducible exact H) | (have H2_ := (Option.bind_some _ _).symm.trans H; rw [hy139]; with_reducible exact H2_) | (have H2_ := (Option.bind_some _ _).symm.trans H; with_reducible exact H2_) | with_reducible exact H | (rw [hy139]; exact H) | exact H
       have Ny139 := yaa hy139
       clear hy139
       simp only [Option.some.injEq, Prod.mk.injEq] at H
       obtain ⟨rfl, rfl, rfl, rfl⟩ := H
       go_enter Try.func75, Try.ntmps75
       try go_wp2_with (first | ((with_reducible refine gate_dst (N := 4) rfl ?_); refine box_event ?hg (N := 4) ?hd (cs := #[.slice none 0 0, .string (⟨#[]⟩ : ByteArray), .int .i64 0]) (t := 42) ?hr ?_; (case hd => rfl); (case hg => rfl); (case hr => first | (go_simp; done) | (go_simp; rfl)); intro gb101 hg w66 hbox hb; have n0_ := yaa (ybi (by repeat (first | (with_reducible first | exact HI0.out | apply yab | apply yac | apply yaf | apply yad) | exact HI0.out)) hb); have n1_ := yaa (yar (by repeat (first | (with_reducible first | exact HK.out | apply yag | apply yal | apply yao | apply yam) | exact HK.out)) (ybf hb g none) (.inl rfl)); have n2_ := yaa (below_step (by repeat (first | (with_reducible first | exact HB.out | apply yav | apply yan | apply yau | refine yai ?_ (yaz HI0.out)) | exact HB.out)) hb); have n3_ := yaa (hbox); have n4_ := yaa ((by rw [hg]; exact (ybh (w := w) (g := g) (row := none) (by repeat (first | (with_reducible first | exact HK.out | apply yag | apply yal | apply yao | apply yam) | exact HK.out))) : w.heap.size ≤ gb101)); have n5_ := yaa ((Nat.le_trans HW0.out (by rw [hg]; exact (ybh (w := w) (g := g) (row := none) (by repeat (first | (with_reducible first | exact HK.out | apply yag | apply yal | apply yao | apply yam) | exact HK.out))) : w.heap.size ≤ gb101) : w0.heap.size ≤ gb101)); have n6_ := yaa ((by rw [hg]; exact Nat.ne_of_lt (IsS143.lt (show ybg w0 _ g s0_0 s0_1 from by repeat (first | (with_reducible first | exact HI0.out | apply yab | apply yac | apply yaf | apply yad) | exact HI0.out))) : g ≠ gb101)); have n7_ := yaa ((by rw [hg]; exact Nat.ne_of_gt (IsS143.lt (show ybg w0 _ g s0_0 s0_1 from by repeat (first | (with_reducible first | exact HI0.out | apply yab | apply yac | apply yaf | apply yad) | exact HI0.out))) : gb101 ≠ g)); clear HI0; clear HK; clear HB; have HI0 := n0_; have HK := n1_; have HB := n2_; have BK101 := n3_; have GW101 := n4_; have GE101 := n5_; have NB0_101 := n6_; have NB101_0 := n7_; clear n0_ n1_ n2_ n3_ n4_ n5_ n6_ n7_; clear hb hbox hg) | ((with_reducible refine ybd (f := 123) rfl ?_); refine goesL_ (some 7) rfl rfl Try.func123 (by kernel_rfl) rfl #[.pointer (some ⟨g, 0, none⟩), .int .i64 0] rfl (by (try simp only [List.map_toArray, List.map_cons, List.map_nil]); first | done | rfl | (simp only [List.length_drop, List.length_take]; rfl)) ?_; (with_reducible refine (spec_l20Ops.calls k g s0_0 s0_1 0 t102 t105 w0 _ ?side1 ?side2 A3.out).mono ?_); (case side1 => repeat (first | (with_reducible first | exact HI0.out | apply yab | apply yac | apply yaf | apply yad | refine yae ?_ NB0_101.out _) | exact HI0.out)); (case side2 => repeat (first | (with_reducible first | exact HB.out | apply yav | apply yan | apply yau | refine yai ?_ (yaz HI0.out) | refine yai ?_ GE101.out) | exact HB.out)); rintro e w67 ⟨v103, rfl, ho0, hi, hb, hk⟩; refine ⟨_, rfl, ?_⟩; have n0_ := yaa (yay hk (g' := gb101) (o := .cells #[.slice none 0 0, .string (⟨#[]⟩ : ByteArray), .int .i64 0] 42 (0, 0)) (by (with_reducible repeat (first | refine yaj ?_ _ | refine yak ?_ | refine yah ?_ _)); exact BK101.out) NB101_0.out (by simp)); have n1_ := yaa (Kd.R_lower ho0 (ybh (w := w) (g := g) (row := none) (by repeat (first | (with_reducible first | exact HK.out | apply yag | apply yal | apply yao | apply yam | refine yas ?_ GW101.out _) | exact HK.out)))); have n2_ := yaa (yar (by repeat (first | (with_reducible first | exact HK.out | apply yag | apply yal | apply yao | apply yam | refine yas ?_ GW101.out _) | exact HK.out)) hk (.inl rfl)); have n3_ := yaa (hb); have n4_ := yaa (hi); clear BK101; clear HK; clear HB; clear HI0; have BK101 := n0_; have HO104 := n1_; have HK := n2_; have HB := n3_; have HI0 := n4_; clear n0_ n1_ n2_ n3_ n4_; (try clear hb); (try clear hb2); (try clear hk); (try clear hi); (try clear ho0)) | ((with_reducible refine ybd (f := 124) rfl ?_); refine goesL_ (some 9) rfl rfl Try.func124 (by kernel_rfl) rfl #[.pointer (some ⟨g, 0, none⟩)] rfl (by (try simp only [List.map_toArray, List.map_cons, List.map_nil]); first | done | rfl | (simp only [List.length_drop, List.length_take]; rfl)) ?_; (with_reducible refine (spec_l20Path.calls k g s0_0 t105 t106 t107 w0 _ ?side1 ?side2 A4.out).mono ?_); (case side1 => repeat (first | (with_reducible first | exact HI0.out | apply yab | apply yac | apply yaf | apply yad | refine yae ?_ NB0_101.out _) | exact HI0.out)); (case side2 => repeat (first | (with_reducible first | exact HB.out | apply yav | apply yan | apply yau | refine yai ?_ (yaz HI0.out) | refine yai ?_ GE101.out) | exact HB.out)); rintro e w68 ⟨rfl, hi, hb, hk⟩; refine ⟨_, rfl, ?_⟩; have n0_ := yaa (yay hk (g' := gb101) (o := .cells #[.slice none 0 0, .string (⟨#[]⟩ : ByteArray), .int .i64 0] 42 (0, 0)) (by (with_reducible repeat (first | refine yaj ?_ _ | refine yak ?_ | refine yah ?_ _)); exact BK101.out) NB101_0.out (by simp)); have n1_ := yaa (yax (ybc (yaw (show ybg w0 _ g s0_0 t105 from by repeat (first | (with_reducible first | exact HI0.out | apply yab | apply yac | apply yaf | apply yad | refine yae ?_ NB0_101.out _) | exact HI0.out)) (by (with_reducible repeat (first | apply yap | apply yaq | apply yat)); exact HO104.out) (by decide)) hk (fun _ h => h.2)) (fun _ h => h.1)); have n2_ := yaa (yar (by repeat (first | (with_reducible first | exact HK.out | apply yag | apply yal | apply yao | apply yam | refine yas ?_ GW101.out _) | exact HK.out)) hk (.inl rfl)); have n3_ := yaa (hb); have n4_ := yaa (hi); clear BK101; clear HO104; clear HK; clear HB; clear HI0; have BK101 := n0_; have HO104 := n1_; have HK := n2_; have HB := n3_; have HI0 := n4_; clear n0_ n1_ n2_ n3_ n4_; (try clear hb); (try clear hb2); (try clear hk); (try clear hi)) | ((with_reducible refine ybd (f := 116) rfl ?_); refine goesL_ (some 11) rfl rfl Try.func116 (by kernel_rfl) rfl #[.pointer (some ⟨g, 0, none⟩), .int .i64 80] rfl (by (try simp only [List.map_toArray, List.map_cons, List.map_nil]); first | done | rfl | (simp only [List.length_drop, List.length_take]; rfl)) ?_; (with_reducible refine (spec_l20Rd_pick.calls k g s0_0 t107 80 t108 t109 w0 _ ?side1 ?side2 A5.out).mono ?_); (case side1 => repeat (first | (with_reducible first | exact HI0.out | apply yab | apply yac | apply yaf | apply yad | refine yae ?_ NB0_101.out _) | exact HI0.out)); (case side2 => repeat (first | (with_reducible first | exact HB.out | apply yav | apply yan | apply yau | refine yai ?_ (yaz HI0.out) | refine yai ?_ GE101.out) | exact HB.out)); rintro e w69 ⟨rfl, hi, hb, hk⟩; refine ⟨_, rfl, ?_⟩; have n0_ := yaa (yay hk (g' := gb101) (o := .cells #[.slice none 0 0, .string (⟨#[]⟩ : ByteArray), .int .i64 0] 42 (0, 0)) (by (with_reducible repeat (first | refine yaj ?_ _ | refine yak ?_ | refine yah ?_ _)); exact BK101.out) NB101_0.out (by simp)); have n1_ := yaa (yax (ybc (yaw (show ybg w0 _ g s0_0 t107 from by repeat (first | (with_reducible first | exact HI0.out | apply yab | apply yac | apply yaf | apply yad | refine yae ?_ NB0_101.out _) | exact HI0.out)) (by (with_reducible repeat (first | apply yap | apply yaq | apply yat)); exact HO104.out) (by decide)) hk (fun _ h => h.2)) (fun _ h => h.1)); have n2_ := yaa (yar (by repeat (first | (with_reducible first | exact HK.out | apply yag | apply yal | apply yao | apply yam | refine yas ?_ GW101.out _) | exact HK.out)) hk (.inl rfl)); have n3_ := yaa (hb); have n4_ := yaa (hi); clear BK101; clear HO104; clear HK; clear HB; clear HI0; have BK101 := n0_; have HO104 := n1_; have HK := n2_; have HB := n3_; have HI0 := n4_; clear n0_ n1_ n2_ n3_ n4_; (try clear hb); (try clear hb2); (try clear hk); (try clear hi)) | ((with_reducible refine gate_dst (N := 12) rfl ?_); refine Kd.R_lit (Kd.int .i64) _ 3 ?hg (N := 12) ?hd (xs := ([9999, t108] : List Int)) (inner := [.int .i64 9999, .int .i64 t108]) (ok := fun _ => True) (okp := fun _ => True) ?hr ?hp (fun _ hk => hk) trivial (Below.refl _ _) (Nat.le_refl _) (by simp) ?_; (case hd => rfl); (case hg => rfl); (case hr => first | (go_simp; done) | (go_simp; rfl)); (case hp => exact (Reps.one (show Kd.M (Kd.int .i64) _ _ _ 9999 [.int .i64 9999] from rfl) (Reps.one (show Kd.M (Kd.int .i64) _ _ _ t108 [.int .i64 t108] from rfl) (Reps.none _ _)))); intro v111 w70 ho71 hb hg_ hnew_; clear hg_ hnew_; (first | rw [← Ny110.out] at ho71 | (simp only [Int.reduceToNat] at ho71; rw [← Ny110.out] at ho71)); have n0_ := yaa (ybj (by (with_reducible repeat (first | apply yap | apply yaq | apply yat)); exact HO104.out) hb); have n1_ := yaa (Kd.R_lower ho71 (ybh (w := w) (g := g) (row := none) (by repeat (first | (with_reducible first | exact HK.out | apply yag | apply yal | apply yao | apply yam | refine yas ?_ GW101.out _) | exact HK.out)))); have n2_ := yaa (ybi (by repeat (first | (with_reducible first | exact HI0.out | apply yab | apply yac | apply yaf | apply yad | refine yae ?_ NB0_101.out _) | exact HI0.out)) hb); have n3_ := yaa (blk_below (g := gb101) (o := .cells #[.slice none 0 0, .string (⟨#[]⟩ : ByteArray), .int .i64 0] 42 (0, 0)) (by (with_reducible repeat (first | refine yaj ?_ _ | refine yak ?_ | refine yah ?_ _)); exact BK101.out) hb); have n4_ := yaa (yar (by repeat (first | (with_reducible first | exact HK.out | apply yag | apply yal | apply yao | apply yam | refine yas ?_ GW101.out _) | exact HK.out)) (ybf hb g none) (.inl rfl)); have n5_ := yaa (below_step (by repeat (first | (with_reducible first | exact HB.out | apply yav | apply yan | apply yau | refine yai ?_ (yaz HI0.out) | refine yai ?_ GE101.out) | exact HB.out)) hb); clear HO104; clear HI0; clear BK101; clear HK; clear HB; have HO104 := n0_; have HO112 := n1_; have HI0 := n2_; have BK101 := n3_; have HK := n4_; have HB := n5_; clear n0_ n1_ n2_ n3_ n4_ n5_; clear hb ho71) | ((with_reducible refine ybd (f := 116) rfl ?_); refine goesL_ (some 14) rfl rfl Try.func116 (by kernel_rfl) rfl #[.pointer (some ⟨g, 0, none⟩), .int .i64 2] rfl (by (try simp only [List.map_toArray, List.map_cons, List.map_nil]); first | done | rfl | (simp only [List.length_drop, List.length_take]; rfl)) ?_; (with_reducible refine (spec_l20Rd_pick.calls k g s0_0 t109 2 t113 t114 w0 _ ?side1 ?side2 A6.out).mono ?_); (case side1 => repeat (first | (with_reducible first | exact HI0.out | apply yab | apply yac | apply yaf | apply yad | refine yae ?_ NB0_101.out _) | exact HI0.out)); (case side2 => repeat (first | (with_reducible first | exact HB.out | apply yav | apply yan | apply yau | refine yai ?_ (yaz HI0.out) | refine yai ?_ GE101.out) | exact HB.out)); rintro e w72 ⟨rfl, hi, hb, hk⟩; refine ⟨_, rfl, ?_⟩; have n0_ := yaa (yay hk (g' := gb101) (o := .cells #[.slice none 0 0, .string (⟨#[]⟩ : ByteArray), .int .i64 0] 42 (0, 0)) (by (with_reducible repeat (first | refine yaj ?_ _ | refine yak ?_ | refine yah ?_ _)); exact BK101.out) NB101_0.out (by simp)); have n1_ := yaa (yax (ybc (yaw (show ybg w0 _ g s0_0 t109 from by repeat (first | (with_reducible first | exact HI0.out | apply yab | apply yac | apply yaf | apply yad | refine yae ?_ NB0_101.out _) | exact HI0.out)) (by (with_reducible repeat (first | apply yap | apply yaq | apply yat)); exact HO104.out) (by decide)) hk (fun _ h => h.2)) (fun _ h => h.1)); have n2_ := yaa (yax (ybc (yaw (show ybg w0 _ g s0_0 t109 from by repeat (first | (with_reducible first | exact HI0.out | apply yab | apply yac | apply yaf | apply yad | refine yae ?_ NB0_101.out _) | exact HI0.out)) (by (with_reducible repeat (first | apply yap | apply yaq | apply yat)); exact HO112.out) (by decide)) hk (fun _ h => h.2)) (fun _ h => h.1)); have n3_ := yaa (yar (by repeat (first | (with_reducible first | exact HK.out | apply yag | apply yal | apply yao | apply yam | refine yas ?_ GW101.out _) | exact HK.out)) hk (.inl rfl)); have n4_ := yaa (hb); have n5_ := yaa (hi); clear BK101; clear HO104; clear HO112; clear HK; clear HB; clear HI0; have BK101 := n0_; have HO104 := n1_; have HO112 := n2_; have HK := n3_; have HB := n4_; have HI0 := n5_; clear n0_ n1_ n2_ n3_ n4_ n5_; (try clear hb); (try clear hb2); (try clear hk); (try clear hi); obtain ⟨Ao73, co73, eo73⟩ := Kd.R_slice HO112.out; subst eo73; have p115 : 0 ≤ (t113 : Int) := of_decide_eq_true (by first | (with_reducible assumption) | assumption); have q115 : t113 < (y110.length : Int) := of_decide_eq_true (by first | (with_reducible assumption) | assumption); obtain ⟨ad115, e115, hx115_0⟩ := Kd.at_int (Kd.R_reads' HO112.out).2.2 t113 p115 q115; cases e115; replace p115 := eq_true p115; replace q115 := eq_true q115; obtain ⟨Ao74, co74, eo74⟩ := Kd.R_slice HO104.out; subst eo74) | ((with_reducible refine gate_dst (N := 5) rfl ?_); refine box_event ?hg (N := 5) ?hd (cs := #[.slice none 0 0, .string (⟨#[]⟩ : ByteArray), .int .i64 0]) (t := 42) ?hr ?_; (case hd => rfl); (case hg => rfl); (case hr => first | (go_simp; done) | (go_simp; rfl)); intro gb116 hg w75 hbox hb; have n0_ := yaa (ybj (by (with_reducible repeat (first | apply yap | apply yaq | apply yat)); exact HO104.out) hb); have n1_ := yaa (ybj (by (with_reducible repeat (first | apply yap | apply yaq | apply yat)); exact HO112.out) hb); have n2_ := yaa (ybi (by repeat (first | (with_reducible first | exact HI0.out | apply yab | apply yac | apply yaf | apply yad | refine yae ?_ NB0_101.out _) | exact HI0.out)) hb); have n3_ := yaa (blk_below (g := gb101) (o := .cells #[.slice none 0 0, .string (⟨#[]⟩ : ByteArray), .int .i64 0] 42 (0, 0)) (by (with_reducible repeat (first | refine yaj ?_ _ | refine yak ?_ | refine yah ?_ _)); exact BK101.out) hb); have n4_ := yaa (yar (by repeat (first | (with_reducible first | exact HK.out | apply yag | apply yal | apply yao | apply yam | refine yas ?_ GW101.out _) | exact HK.out)) (ybf hb g none) (.inl rfl)); have n5_ := yaa (below_step (by repeat (first | (with_reducible first | exact HB.out | apply yav | apply yan | apply yau | refine yai ?_ (yaz HI0.out) | refine yai ?_ GE101.out) | exact HB.out)) hb); have n6_ := yaa (hbox); have n7_ := yaa ((by rw [hg]; exact (ybh (w := w) (g := g) (row := none) (by repeat (first | (with_reducible first | exact HK.out | apply yag | apply yal | apply yao | apply yam | refine yas ?_ GW101.out _) | exact HK.out))) : w.heap.size ≤ gb116)); have n8_ := yaa ((Nat.le_trans HW0.out (by rw [hg]; exact (ybh (w := w) (g := g) (row := none) (by repeat (first | (with_reducible first | exact HK.out | apply yag | apply yal | apply yao | apply yam | refine yas ?_ GW101.out _) | exact HK.out))) : w.heap.size ≤ gb116) : w0.heap.size ≤ gb116)); have n9_ := yaa ((by rw [hg]; exact Nat.ne_of_lt (blk_lt (g := gb101) (o := .cells #[.slice none 0 0, .string (⟨#[]⟩ : ByteArray), .int .i64 0] 42 (0, 0)) (by (with_reducible repeat (first | refine yaj ?_ _ | refine yak ?_ | refine yah ?_ _)); exact BK101.out)) : gb101 ≠ gb116)); have n10_ := yaa ((by rw [hg]; exact Nat.ne_of_gt (blk_lt (g := gb101) (o := .cells #[.slice none 0 0, .string (⟨#[]⟩ : ByteArray), .int .i64 0] 42 (0, 0)) (by (with_reducible repeat (first | refine yaj ?_ _ | refine yak ?_ | refine yah ?_ _)); exact BK101.out)) : gb116 ≠ gb101)); have n11_ := yaa ((by rw [hg]; exact Nat.ne_of_lt (IsS143.lt (show ybg w0 _ g s0_0 t114 from by repeat (first | (with_reducible first | exact HI0.out | apply yab | apply yac | apply yaf | apply yad | refine yae ?_ NB0_101.out _) | exact HI0.out))) : g ≠ gb116)); have n12_ := yaa ((by rw [hg]; exact Nat.ne_of_gt (IsS143.lt (show ybg w0 _ g s0_0 t114 from by repeat (first | (with_reducible first | exact HI0.out | apply yab | apply yac | apply yaf | apply yad | refine yae ?_ NB0_101.out _) | exact HI0.out))) : gb116 ≠ g)); clear HO104; clear HO112; clear HI0; clear BK101; clear HK; clear HB; have HO104 := n0_; have HO112 := n1_; have HI0 := n2_; have BK101 := n3_; have HK := n4_; have HB := n5_; have BK116 := n6_; have GW116 := n7_; have GE116 := n8_; have NB101_116 := n9_; have NB116_101 := n10_; have NB0_116 := n11_; have NB116_0 := n12_; clear n0_ n1_ n2_ n3_ n4_ n5_ n6_ n7_ n8_ n9_ n10_ n11_ n12_; clear hb hbox hg; have hnb76 := NB116_101.out; have hnc76 := NB101_116.out; have hnb77 := NB116_0.out; have hnc77 := NB0_116.out; have hcz78_0 : w75.cell? ⟨gb116, 0, none⟩ = some (.slice none 0 0) := (ybb BK116.out 0).trans rfl; have hcz78_1 : w75.cell? ⟨gb116, 1, none⟩ = some (.string (⟨#[]⟩ : ByteArray)) := (ybb BK116.out 1).trans rfl; have hcz78_2 : w75.cell? ⟨gb116, 2, none⟩ = some (.int .i64 0) := (ybb BK116.out 2).trans rfl; have hfz78_0 := yba BK116.out 0; have hfz78_1 := yba BK116.out 1; have hfz78_2 := yba BK116.out 2) | ((with_reducible refine ybd (f := 117) rfl ?_); refine goesL_ (some 20) rfl rfl Try.func117 (by kernel_rfl) rfl #[.pointer (some ⟨g, 0, none⟩), .int .i64 a1] rfl (by (try simp only [List.map_toArray, List.map_cons, List.map_nil]); first | done | rfl | (simp only [List.length_drop, List.length_take]; rfl)) ?_; (with_reducible refine (spec_l20Rd_odd.calls k g s0_0 t114 a1 true t118 w0 _ ?side1 ?side2 A9.out).mono ?_); (case side1 => repeat (first | (with_reducible first | exact HI0.out | apply yab | apply yac | apply yaf | apply yad | refine yae ?_ NB0_101.out _ | refine yae ?_ NB0_116.out _) | exact HI0.out)); (case side2 => repeat (first | (with_reducible first | exact HB.out | apply yav | apply yan | apply yau | refine yai ?_ (yaz HI0.out) | refine yai ?_ GE101.out | refine yai ?_ GE116.out) | exact HB.out)); rintro e w79 ⟨rfl, hi, hb, hk⟩; refine ⟨_, rfl, ?_⟩; have n0_ := yaa (yay hk (g' := gb101) (o := .cells #[.slice none 0 0, .string (⟨#[]⟩ : ByteArray), .int .i64 0] 42 (0, 0)) (by (with_reducible repeat (first | refine yaj ?_ _ | refine yak ?_ | refine yah ?_ _)); refine blk_far ?_ NB101_116.out _; (with_reducible repeat (first | refine yaj ?_ _ | refine yak ?_ | refine yah ?_ _)); refine blk_far ?_ NB101_116.out _; (with_reducible repeat (first | refine yaj ?_ _ | refine yak ?_ | refine yah ?_ _)); refine blk_far ?_ NB101_116.out _; (with_reducible repeat (first | refine yaj ?_ _ | refine yak ?_ | refine yah ?_ _)); exact BK101.out) NB101_0.out (by simp)); have n1_ := yaa (yax (ybc (yaw (show ybg w0 _ g s0_0 t114 from by repeat (first | (with_reducible first | exact HI0.out | apply yab | apply yac | apply yaf | apply yad | refine yae ?_ NB0_101.out _ | refine yae ?_ NB0_116.out _) | exact HI0.out)) (by (with_reducible repeat (first | apply yap | apply yaq | apply yat)); exact (yax (ybe (p := ⟨gb116, 2, none⟩) (ybe (p := ⟨gb116, 1, none⟩) (ybe (p := ⟨gb116, 0, none⟩) (ybk HO104.out BK116.out (by decide)) (fun _ hk => hk.2) (.slice Ao74 t102.length co74)) (fun _ hk => hk.2) (.string t106)) (fun _ hk => hk.2) (.int .i64 (rd y110 t113))) (fun _ h_ => h_.1))) (by decide)) hk (fun _ h => h.2)) (fun _ h => h.1)); have n2_ := yaa (yax (ybc (yaw (show ybg w0 _ g s0_0 t114 from by repeat (first | (with_reducible first | exact HI0.out | apply yab | apply yac | apply yaf | apply yad | refine yae ?_ NB0_101.out _ | refine yae ?_ NB0_116.out _) | exact HI0.out)) (by (with_reducible repeat (first | apply yap | apply yaq | apply yat)); exact (yax (ybe (p := ⟨gb116, 2, none⟩) (ybe (p := ⟨gb116, 1, none⟩) (ybe (p := ⟨gb116, 0, none⟩) (ybk HO112.out BK116.out (by decide)) (fun _ hk => hk.2) (.slice Ao74 t102.length co74)) (fun _ hk => hk.2) (.string t106)) (fun _ hk => hk.2) (.int .i64 (rd y110 t113))) (fun _ h_ => h_.1))) (by decide)) hk (fun _ h => h.2)) (fun _ h => h.1)); have n3_ := yaa (yay hk (g' := gb116) (o := .cells #[.slice Ao74 t102.length co74, .string t106, .int .i64 (rd y110 t113)] 42 (0, 0)) (by (with_reducible repeat (first | refine yaj ?_ _ | refine yak ?_ | refine yah ?_ _)); refine blk_put (cs := #[.slice Ao74 t102.length co74, .string t106, .int .i64 0]) ?_ 2 _ rfl; (with_reducible repeat (first | refine yaj ?_ _ | refine yak ?_ | refine yah ?_ _)); refine blk_put (cs := #[.slice Ao74 t102.length co74, .string (⟨#[]⟩ : ByteArray), .int .i64 0]) ?_ 1 _ rfl; (with_reducible repeat (first | refine yaj ?_ _ | refine yak ?_ | refine yah ?_ _)); refine blk_put (cs := #[.slice none 0 0, .string (⟨#[]⟩ : ByteArray), .int .i64 0]) ?_ 0 _ rfl; (with_reducible repeat (first | refine yaj ?_ _ | refine yak ?_ | refine yah ?_ _)); exact BK116.out) NB116_0.out (by simp)); have n4_ := yaa (yar (by repeat (first | (with_reducible first | exact HK.out | apply yag | apply yal | apply yao | apply yam | refine yas ?_ GW101.out _ | refine yas ?_ GW116.out _) | exact HK.out)) hk (.inl rfl)); have n5_ := yaa (hb); have n6_ := yaa (hi); clear BK101; clear HO104; clear HO112; clear BK116; clear HK; clear HB; clear HI0; have BK101 := n0_; have HO104 := n1_; have HO112 := n2_; have BK116 := n3_; have HK := n4_; have HB := n5_; have HI0 := n6_; clear n0_ n1_ n2_ n3_ n4_ n5_ n6_; (try clear hb); (try clear hb2); (try clear hk); (try clear hi)) | ((with_reducible refine ybd (f := 116) rfl ?_); refine goesL_ (some 22) rfl rfl Try.func116 (by kernel_rfl) rfl #[.pointer (some ⟨g, 0, none⟩), .int .i64 3] rfl (by (try simp only [List.map_toArray, List.map_cons, List.map_nil]); first | done | rfl | (simp only [List.length_drop, List.length_take]; rfl)) ?_; (with_reducible refine (spec_l20Rd_pick.calls k g s0_0 t118 3 t119 t120 w0 _ ?side1 ?side2 A11.out).mono ?_); (case side1 => repeat (first | (with_reducible first | exact HI0.out | apply yab | apply yac | apply yaf | apply yad | refine yae ?_ NB0_101.out _ | refine yae ?_ NB0_116.out _) | exact HI0.out)); (case side2 => repeat (first | (with_reducible first | exact HB.out | apply yav | apply yan | apply yau | refine yai ?_ (yaz HI0.out) | refine yai ?_ GE101.out | refine yai ?_ GE116.out) | exact HB.out)); rintro e w80 ⟨rfl, hi, hb, hk⟩; refine ⟨_, rfl, ?_⟩; have n0_ := yaa (yay hk (g' := gb101) (o := .cells #[.slice none 0 0, .string (⟨#[]⟩ : ByteArray), .int .i64 0] 42 (0, 0)) (by (with_reducible repeat (first | refine yaj ?_ _ | refine yak ?_ | refine yah ?_ _)); exact BK101.out) NB101_0.out (by simp)); have n1_ := yaa (yax (ybc (yaw (show ybg w0 _ g s0_0 t118 from by repeat (first | (with_reducible first | exact HI0.out | apply yab | apply yac | apply yaf | apply yad | refine yae ?_ NB0_101.out _ | refine yae ?_ NB0_116.out _) | exact HI0.out)) (by (with_reducible repeat (first | apply yap | apply yaq | apply yat)); exact HO104.out) (by decide)) hk (fun _ h => h.2)) (fun _ h => h.1)); have n2_ := yaa (yax (ybc (yaw (show ybg w0 _ g s0_0 t118 from by repeat (first | (with_reducible first | exact HI0.out | apply yab | apply yac | apply yaf | apply yad | refine yae ?_ NB0_101.out _ | refine yae ?_ NB0_116.out _) | exact HI0.out)) (by (with_reducible repeat (first | apply yap | apply yaq | apply yat)); exact HO112.out) (by decide)) hk (fun _ h => h.2)) (fun _ h => h.1)); have n3_ := yaa (yay hk (g' := gb116) (o := .cells #[.slice Ao74 t102.length co74, .string t106, .int .i64 (rd y110 t113)] 42 (0, 0)) (by (with_reducible repeat (first | refine yaj ?_ _ | refine yak ?_ | refine yah ?_ _)); exact BK116.out) NB116_0.out (by simp)); have n4_ := yaa (yar (by repeat (first | (with_reducible first | exact HK.out | apply yag | apply yal | apply yao | apply yam | refine yas ?_ GW101.out _ | refine yas ?_ GW116.out _) | exact HK.out)) hk (.inl rfl)); have n5_ := yaa (hb); have n6_ := yaa (hi); clear BK101; clear HO104; clear HO112; clear BK116; clear HK; clear HB; clear HI0; have BK101 := n0_; have HO104 := n1_; have HO112 := n2_; have BK116 := n3_; have HK := n4_; have HB := n5_; have HI0 := n6_; clear n0_ n1_ n2_ n3_ n4_ n5_ n6_; (try clear hb); (try clear hb2); (try clear hk); (try clear hi)))
       have n0_ := yaa (yat HO104.out)
       have n1_ := yaa (yat HO112.out)
       have n2_ := yaa (yak BK101.out)
       have n3_ := yaa (yak BK116.out)
       have n4_ := yaa (yaf HI0.out)
       have n5_ := yaa (yao HK.out)
       have n6_ := yaa (yau HB.out)
       clear HO104
       clear HO112
       clear BK101
       clear BK116
       clear HI0
       clear HK
       clear HB
       have HO104 := n0_
       have HO112 := n1_
       have BK101 := n2_
       have BK116 := n3_
       have HI0 := n4_
       have HK := n5_
       have HB := n6_
       clear n0_ n1_ n2_ n3_ n4_ n5_ n6_
       refine start_ (n := 8) (S := fun w' => w'.cell? ⟨gb116, 0, none⟩ = some (.slice Ao74 t102.length co74) ∧ w'.cell? ⟨gb116, 1, none⟩ = some (.string t106) ∧ w'.cell? ⟨gb116, 2, none⟩ = some (.int .i64 (rd y110 t113))) (ds := [7]) q75_0 (by kernel_rfl) rfl rfl ⟨(ybb BK116.out 0).trans rfl, (ybb BK116.out 1).trans rfl, (ybb BK116.out 2).trans rfl⟩ (fun hHeld => ?_); refine with_tabW spec_l20Ask.tab4 spec_l20Ask.bits4 (fun HT_ HW_ => ?_)
       generalize w80.drew = w81 at HO104 HO112 BK101 BK116 HI0 HK HB hHeld ⊢
       refine pz_ 0 23 q75_1 HT_ (by kernel_rfl) ?_
       refine pz_ 2 25 q75_2 HT_ (by kernel_rfl) ?_
       refine tz_ 1 24 q75_3 HT_ HW_ (by kernel_rfl) hHeld ?_
       refine one_ (i := 3) (N := some 26) q75_4 rfl rfl (one_of HT_.out (by kernel_rfl)) (by decide) (fun K hK => ?_)
       refine goes_ Try.func125 (by kernel_rfl) rfl #[.pointer (some ⟨g, 0, none⟩), .int .i64 1] (by rfl) rfl rfl (by (try simp only [List.map_toArray, List.map_cons, List.map_nil]); first | done | rfl | (simp only [List.length_drop, List.length_take]; rfl)) ?_
       with_reducible refine (spec_l20Op.calls k g s0_0 t120 1 t133 t134 t135 t136 t137 t138 w0 _ ?side1 ?side2 A64.out).mono ?_
       (case side1 => repeat (first | (with_reducible first | exact HI0.out | apply yab | apply yac | apply yaf | apply yad | refine yae ?_ NB0_101.out _ | refine yae ?_ NB0_116.out _) | exact HI0.out))
       (case side2 => repeat (first | (with_reducible first | exact HB.out | apply yav | apply yan | apply yau | refine yai ?_ (yaz HI0.out) | refine yai ?_ GE101.out | refine yai ?_ GE116.out) | exact HB.out))
       rintro e w82 ⟨rfl, hi, hb, hk⟩
       refine ⟨_, rfl, ?_⟩
       have n0_ := yaa (yay hk (g' := gb101) (o := .cells #[.slice none 0 0, .string (⟨#[]⟩ : ByteArray), .int .i64 0] 42 (0, 0)) (by (with_reducible repeat (first | refine yaj ?_ _ | refine yak ?_ | refine yah ?_ _)); exact BK101.out) NB101_0.out (by simp))
       have n1_ := yaa (yax (ybc (yaw (show ybg w0 _ g s0_0 t120 from by repeat (first | (with_reducible first | exact HI0.out | apply yab | apply yac | apply yaf | apply yad | refine yae ?_ NB0_101.out _ | refine yae ?_ NB0_116.out _) | exact HI0.out)) (by (with_reducible repeat (first | apply yap | apply yaq | apply yat)); exact HO104.out) (by decide)) hk (fun _ h => h.2)) (fun _ h => h.1))
       have n2_ := yaa (yax (ybc (yaw (show ybg w0 _ g s0_0 t120 from by repeat (first | (with_reducible first | exact HI0.out | apply yab | apply yac | apply yaf | apply yad | refine yae ?_ NB0_101.out _ | refine yae ?_ NB0_116.out _) | exact HI0.out)) (by (with_reducible repeat (first | apply yap | apply yaq | apply yat)); exact HO112.out) (by decide)) hk (fun _ h => h.2)) (fun _ h => h.1))
       have n3_ := yaa (yay hk (g' := gb116) (o := .cells #[.slice Ao74 t102.length co74, .string t106, .int .i64 (rd y110 t113)] 42 (0, 0)) (by (with_reducible repeat (first | refine yaj ?_ _ | refine yak ?_ | refine yah ?_ _)); exact BK116.out) NB116_0.out (by simp))
       have n4_ := yaa (yar (by repeat (first | (with_reducible first | exact HK.out | apply yag | apply yal | apply yao | apply yam | refine yas ?_ GW101.out _ | refine yas ?_ GW116.out _) | exact HK.out)) hk (.inl rfl))
       have n5_ := yaa (hb)
       have n6_ := yaa (hi)
       clear BK101
       clear HO104
       clear HO112
       clear BK116
       clear HK
       clear HB
       clear HI0
       have BK101 := n0_
       have HO104 := n1_
       have HO112 := n2_
       have BK116 := n3_
       have HK := n4_
       have HB := n5_
       have HI0 := n6_
       clear n0_ n1_ n2_ n3_ n4_ n5_ n6_
       (try clear hb)
       (try clear hb2)
       (try clear hk)
       (try clear hi)
       refine hK.out _ _ ⟨(ybb BK116.out 0).trans rfl, (ybb BK116.out 1).trans rfl, (ybb BK116.out 2).trans rfl⟩ (fun hHeld => ?_)
       clear hK K
       refine norm_ (a' := ?_) ?_ ?_
       rotate_left
       ·
        show Act.put _ (some 26) _ = _
        simp only [Act.put, List.setIfInBounds_toArray, List.set_cons_zero, List.set_cons_succ, i64_w, i32_w]
        rfl
       refine one_ (i := 4) (N := some 27) q75_5 rfl rfl (one_of HT_.out (by kernel_rfl)) (by decide) (fun K hK => ?_)
       refine value_ (w1 := ?_) (v := ?_) (by rfl) rfl ?_ ?_
       rotate_left 2
       ·
        go_simp
        constructor
        ·
         rfl
        ·
         rfl
       refine hK.out _ _ ⟨(ybb (yah BK116.out _) 0).trans rfl, (ybb (yah BK116.out _) 1).trans rfl, (ybb (yah BK116.out _) 2).trans rfl⟩ (fun hHeld => ?_)
       clear hK K
       refine norm_ (a' := ?_) ?_ ?_
       rotate_left
       ·
        show Act.put _ (some 27) _ = _
        simp only [Act.put, List.setIfInBounds_toArray, List.set_cons_zero, List.set_cons_succ, i64_w, i32_w]
        rfl
       refine one_ (i := 5) (N := some 28) q75_6 rfl rfl (one_of HT_.out (by kernel_rfl)) (by decide) (fun K hK => ?_)
       refine Kd.R_append_step k146 w.heap.size (by rfl) (.tmp 24) (.tmp 27) 40 146 (.agg #[(.int .i64 0), (.int .i64 0), (.int .i64 0), (.int .i64 0), (.int .i64 0)]) 40 rfl Try.underlying40 info146 rfl (by decide) (by omega) (.slice Ao74 t102.length co74) t102 (⟨t133, t134, t135, t136, t137⟩ : S146) [.int .i64 t133, .int .i64 t134, .int .i64 t135, .int .i64 t136, .int .i64 t137] (fun _ => True) (fun _ => False) rfl rfl ?aP (fun _ hk => hk.elim) ?aF ?aO (Below.refl _ _) ?aS ?aL ?_
       (case aP => exact k146_mkM _ _ _ (⟨t133, t134, t135, t136, t137⟩ : S146))
       (case aF => exact (fun _ _ => trivial))
       (case aO => exact (by (with_reducible repeat (first | apply yap | apply yaq | apply yat)); exact HO104.out))
       (case aS => exact (ybh (w := w) (g := g) (row := none) (by repeat (first | (with_reducible first | exact HK.out | apply yag | apply yal | apply yao | apply yam | refine yas ?_ GW101.out _ | refine yas ?_ GW116.out _) | exact HK.out))))
       (case aL => have := LMc65.out; omega)
       intro v140 w83 ho hb hg hat
       rw [← Ny139.out] at ho
       have n0_ := yaa (IsS143.grown (by repeat (first | (with_reducible first | exact HI0.out | apply yab | apply yac | apply yaf | apply yad | refine yae ?_ NB0_101.out _ | refine yae ?_ NB0_116.out _) | exact HI0.out)) hg (IsS143.own_ne HI0.out HO104.out (by decide)))
       have n1_ := yaa (blk_grown (g := gb101) (o := .cells #[.slice none 0 0, .string (⟨#[]⟩ : ByteArray), .int .i64 0] 42 (0, 0)) (by (with_reducible repeat (first | refine yaj ?_ _ | refine yak ?_ | refine yah ?_ _)); exact BK101.out) hg (Kd.R_ne HO104.out BK101.out (by decide)))
       have n2_ := yaa (Kd.R_over' (by (with_reducible repeat (first | apply yap | apply yaq | apply yat)); exact HO112.out) (Kd.R_typed (by (with_reducible repeat (first | apply yap | apply yaq | apply yat)); exact HO104.out)) (by decide) hg)
       have n3_ := yaa (blk_grown (g := gb116) (o := .cells #[.slice Ao74 t102.length co74, .string t106, .int .i64 (rd y110 t113)] 42 (0, 0)) (by (with_reducible repeat (first | refine yaj ?_ _ | refine yak ?_ | refine yah ?_ _)); exact BK116.out) hg (Kd.R_ne HO104.out BK116.out (by decide)))
       have n4_ := yaa (below_weaken (by repeat (first | (with_reducible first | exact HB.out | apply yav | apply yan | apply yau | refine yai ?_ (yaz HI0.out) | refine yai ?_ GE101.out | refine yai ?_ GE116.out) | exact HB.out)) HL.out hb)
       have n5_ := yaa (yar (by repeat (first | (with_reducible first | exact HK.out | apply yag | apply yal | apply yao | apply yam | refine yas ?_ GW101.out _ | refine yas ?_ GW116.out _) | exact HK.out)) (KeepBut.of_grown hg g) (Kd.R_base2 HO104.out))
       have n6_ := yaa (ho)
       clear HI0
       clear BK101
       clear HO112
       clear BK116
       clear HB
       clear HK
       clear HO104
       have HI0 := n0_
       have BK101 := n1_
       have HO112 := n2_
       have BK116 := n3_
       have HB := n4_
       have HK := n5_
       have HO141 := n6_
       clear n0_ n1_ n2_ n3_ n4_ n5_ n6_
       clear ho hb hg hat
       obtain ⟨Ao84, co84, eo84⟩ := Kd.R_slice HO141.out
       (first | subst eo84 | (injection eo84 with f1_ f2_ f3_; have f4_ := f1_.symm; have f5_ := f3_.symm; clear f1_ f2_ f3_; subst f4_; subst f5_))
       refine hK.out _ _ ⟨(ybb BK116.out 0).trans rfl, (ybb BK116.out 1).trans rfl, (ybb BK116.out 2).trans rfl⟩ (fun hHeld => ?_)
       clear hK K
       refine norm_ (a' := ?_) ?_ ?_
       rotate_left
       ·
        show Act.put _ (some 28) _ = _
        simp only [Act.put, List.setIfInBounds_toArray, List.set_cons_zero, List.set_cons_succ, i64_w, i32_w]
        rfl
       refine pz_ 6 29 q75_7 HT_ (by kernel_rfl) ?_
       refine last_ (i := 7) (N := none) q75_8 rfl rfl (one_of HT_.out (by kernel_rfl)) (by decide) (fun K hK => ?_)
       have hs85 : w83.cell? ⟨gb116, 0, none⟩ = some (.slice Ao74 t102.length co74) := (ybb BK116.out 0).trans rfl
       have hfs85 := yba BK116.out 0
       have hns85_0 := NB101_116.out
       have hms85_0 := NB116_101.out
       refine skip_ (w1 := ?_) (by rfl) rfl ?_ ?_
       rotate_left
       ·
        go_simp
        rfl
       refine hK.out _ _ ?_
       clear hK K
       refine done_ (done_of HT_.out (by kernel_rfl)) ?_
       have hcz86_0 : w83.cell? ⟨gb116, 0, none⟩ = some (.slice Ao74 t102.length co74) := (ybb BK116.out 0).trans rfl
       have hcz86_1 : w83.cell? ⟨gb116, 1, none⟩ = some (.string t106) := (ybb BK116.out 1).trans rfl
       have hcz86_2 : w83.cell? ⟨gb116, 2, none⟩ = some (.int .i64 (rd y110 t113)) := (ybb BK116.out 2).trans rfl
       have hfz86_0 := yba BK116.out 0
       have hfz86_1 := yba BK116.out 1
       have hfz86_2 := yba BK116.out 2
       have hnb87 := NB101_0.out
       have hnc87 := NB0_101.out
       have hcz88_0 : w83.cell? ⟨gb101, 0, none⟩ = some (.slice none 0 0) := (ybb BK101.out 0).trans rfl
       have hcz88_1 : w83.cell? ⟨gb101, 1, none⟩ = some (.string (⟨#[]⟩ : ByteArray)) := (ybb BK101.out 1).trans rfl
       have hcz88_2 : w83.cell? ⟨gb101, 2, none⟩ = some (.int .i64 0) := (ybb BK101.out 2).trans rfl
       have hfz88_0 := yba BK101.out 0
       have hfz88_1 := yba BK101.out 1
       have hfz88_2 := yba BK101.out 2
       try go_wp2
       refine bodyPost_ret (results_cell_row rfl _ _ gb101 42 #[.slice Ao84 y139.length co84, .string t106, .int .i64 (rd y110 t113)] (0, 0) _ rfl (by (with_reducible repeat (first | refine yaj ?_ _ | refine yak ?_ | refine yah ?_ _)); refine blk_put (cs := #[.slice Ao84 y139.length co84, .string t106, .int .i64 0]) ?_ 2 _ rfl; (with_reducible repeat (first | refine yaj ?_ _ | refine yak ?_ | refine yah ?_ _)); refine blk_put (cs := #[.slice Ao84 y139.length co84, .string (⟨#[]⟩ : ByteArray), .int .i64 0]) ?_ 1 _ rfl; (with_reducible repeat (first | refine yaj ?_ _ | refine yak ?_ | refine yah ?_ _)); refine blk_put (cs := #[.slice none 0 0, .string (⟨#[]⟩ : ByteArray), .int .i64 0]) ?_ 0 _ rfl; (with_reducible repeat (first | refine yaj ?_ _ | refine yak ?_ | refine yah ?_ _)); refine blk_far ?_ NB101_116.out _; (with_reducible repeat (first | refine yaj ?_ _ | refine yak ?_ | refine yah ?_ _)); exact BK101.out) Try.underlying42 rfl (by kernel_rfl)) rfl ?_
       exact ⟨_, by first | rfl | (simp [errW_none, errW_some] <;> rfl) | (simp [*, errW_none, errW_some] <;> rfl), by (with_reducible repeat (first | apply yap | apply yaq | apply yat)); exact yax (ybe (p := ⟨gb101, 2, none⟩) (ybe (p := ⟨gb101, 1, none⟩) (ybe (p := ⟨gb101, 0, none⟩) (ybe (p := ⟨gb116, 0, none⟩) (ybk (ybk HO141.out BK116.out (by decide)) BK101.out (by decide)) (fun _ hk => hk.1.2) (.slice Ao84 y139.length co84)) (fun _ hk => hk.2) (.slice Ao84 y139.length co84)) (fun _ hk => hk.2) (.string t106)) (fun _ hk => hk.2) (.int .i64 (rd y110 t113))) (fun _ hk => trivial), by repeat (first | (with_reducible first | exact HI0.out | apply yab | apply yac | apply yaf | apply yad | refine yae ?_ NB0_101.out _ | refine yae ?_ NB0_116.out _) | exact HI0.out), by repeat (first | (with_reducible first | exact HB.out | apply yav | apply yan | apply yau | refine yai ?_ (yaz HI0.out) | refine yai ?_ GE101.out | refine yai ?_ GE116.out) | exact HB.out), by repeat (first | (with_reducible first | exact HK.out | apply yag | apply yal | apply yao | apply yam | refine yas ?_ GW101.out _ | refine yas ?_ GW116.out _) | exact HK.out)⟩
      ·
       rw [if_neg c65] at H
       exact absurd H (by simp)
   ·
    replace c10 := Bool.eq_false_iff.mpr c10
    subst c10
    have H1 : (some (t102, t106, rd y110 t113, t118)) = some (r1, r2, r3, r4) := by rw [if_neg (show ¬ (false = true) by decide)] at H; exact H
    clear H
    have H := H1
    clear H1
    simp only [Option.some.injEq, Prod.mk.injEq] at H
    obtain ⟨rfl, rfl, rfl, rfl⟩ := H
    go_enter Try.func75, Try.ntmps75
    go_wp2_with (first | ((with_reducible refine gate_dst (N := 4) rfl ?_); refine box_event ?hg (N := 4) ?hd (cs := #[.slice none 0 0, .string (⟨#[]⟩ : ByteArray), .int .i64 0]) (t := 42) ?hr ?_; (case hd => rfl); (case hg => rfl); (case hr => first | (go_simp; done) | (go_simp; rfl)); intro gb101 hg w89 hbox hb; have n0_ := yaa (ybi (by repeat (first | (with_reducible first | exact HI0.out | apply yab | apply yac | apply yaf | apply yad) | exact HI0.out)) hb); have n1_ := yaa (yar (by repeat (first | (with_reducible first | exact HK.out | apply yag | apply yal | apply yao | apply yam) | exact HK.out)) (ybf hb g none) (.inl rfl)); have n2_ := yaa (below_step (by repeat (first | (with_reducible first | exact HB.out | apply yav | apply yan | apply yau | refine yai ?_ (yaz HI0.out)) | exact HB.out)) hb); have n3_ := yaa (hbox); have n4_ := yaa ((by rw [hg]; exact (ybh (w := w) (g := g) (row := none) (by repeat (first | (with_reducible first | exact HK.out | apply yag | apply yal | apply yao | apply yam) | exact HK.out))) : w.heap.size ≤ gb101)); have n5_ := yaa ((Nat.le_trans HW0.out (by rw [hg]; exact (ybh (w := w) (g := g) (row := none) (by repeat (first | (with_reducible first | exact HK.out | apply yag | apply yal | apply yao | apply yam) | exact HK.out))) : w.heap.size ≤ gb101) : w0.heap.size ≤ gb101)); have n6_ := yaa ((by rw [hg]; exact Nat.ne_of_lt (IsS143.lt (show ybg w0 _ g s0_0 s0_1 from by repeat (first | (with_reducible first | exact HI0.out | apply yab | apply yac | apply yaf | apply yad) | exact HI0.out))) : g ≠ gb101)); have n7_ := yaa ((by rw [hg]; exact Nat.ne_of_gt (IsS143.lt (show ybg w0 _ g s0_0 s0_1 from by repeat (first | (with_reducible first | exact HI0.out | apply yab | apply yac | apply yaf | apply yad) | exact HI0.out))) : gb101 ≠ g)); clear HI0; clear HK; clear HB; have HI0 := n0_; have HK := n1_; have HB := n2_; have BK101 := n3_; have GW101 := n4_; have GE101 := n5_; have NB0_101 := n6_; have NB101_0 := n7_; clear n0_ n1_ n2_ n3_ n4_ n5_ n6_ n7_; clear hb hbox hg) | ((with_reducible refine ybd (f := 123) rfl ?_); refine goesL_ (some 7) rfl rfl Try.func123 (by kernel_rfl) rfl #[.pointer (some ⟨g, 0, none⟩), .int .i64 0] rfl (by (try simp only [List.map_toArray, List.map_cons, List.map_nil]); first | done | rfl | (simp only [List.length_drop, List.length_take]; rfl)) ?_; (with_reducible refine (spec_l20Ops.calls k g s0_0 s0_1 0 t102 t105 w0 _ ?side1 ?side2 A3.out).mono ?_); (case side1 => repeat (first | (with_reducible first | exact HI0.out | apply yab | apply yac | apply yaf | apply yad | refine yae ?_ NB0_101.out _) | exact HI0.out)); (case side2 => repeat (first | (with_reducible first | exact HB.out | apply yav | apply yan | apply yau | refine yai ?_ (yaz HI0.out) | refine yai ?_ GE101.out) | exact HB.out)); rintro e w90 ⟨v103, rfl, ho0, hi, hb, hk⟩; refine ⟨_, rfl, ?_⟩; have n0_ := yaa (yay hk (g' := gb101) (o := .cells #[.slice none 0 0, .string (⟨#[]⟩ : ByteArray), .int .i64 0] 42 (0, 0)) (by (with_reducible repeat (first | refine yaj ?_ _ | refine yak ?_ | refine yah ?_ _)); exact BK101.out) NB101_0.out (by simp)); have n1_ := yaa (Kd.R_lower ho0 (ybh (w := w) (g := g) (row := none) (by repeat (first | (with_reducible first | exact HK.out | apply yag | apply yal | apply yao | apply yam | refine yas ?_ GW101.out _) | exact HK.out)))); have n2_ := yaa (yar (by repeat (first | (with_reducible first | exact HK.out | apply yag | apply yal | apply yao | apply yam | refine yas ?_ GW101.out _) | exact HK.out)) hk (.inl rfl)); have n3_ := yaa (hb); have n4_ := yaa (hi); clear BK101; clear HK; clear HB; clear HI0; have BK101 := n0_; have HO104 := n1_; have HK := n2_; have HB := n3_; have HI0 := n4_; clear n0_ n1_ n2_ n3_ n4_; (try clear hb); (try clear hb2); (try clear hk); (try clear hi); (try clear ho0)) | ((with_reducible refine ybd (f := 124) rfl ?_); refine goesL_ (some 9) rfl rfl Try.func124 (by kernel_rfl) rfl #[.pointer (some ⟨g, 0, none⟩)] rfl (by (try simp only [List.map_toArray, List.map_cons, List.map_nil]); first | done | rfl | (simp only [List.length_drop, List.length_take]; rfl)) ?_; (with_reducible refine (spec_l20Path.calls k g s0_0 t105 t106 t107 w0 _ ?side1 ?side2 A4.out).mono ?_); (case side1 => repeat (first | (with_reducible first | exact HI0.out | apply yab | apply yac | apply yaf | apply yad | refine yae ?_ NB0_101.out _) | exact HI0.out)); (case side2 => repeat (first | (with_reducible first | exact HB.out | apply yav | apply yan | apply yau | refine yai ?_ (yaz HI0.out) | refine yai ?_ GE101.out) | exact HB.out)); rintro e w91 ⟨rfl, hi, hb, hk⟩; refine ⟨_, rfl, ?_⟩; have n0_ := yaa (yay hk (g' := gb101) (o := .cells #[.slice none 0 0, .string (⟨#[]⟩ : ByteArray), .int .i64 0] 42 (0, 0)) (by (with_reducible repeat (first | refine yaj ?_ _ | refine yak ?_ | refine yah ?_ _)); exact BK101.out) NB101_0.out (by simp)); have n1_ := yaa (yax (ybc (yaw (show ybg w0 _ g s0_0 t105 from by repeat (first | (with_reducible first | exact HI0.out | apply yab | apply yac | apply yaf | apply yad | refine yae ?_ NB0_101.out _) | exact HI0.out)) (by (with_reducible repeat (first | apply yap | apply yaq | apply yat)); exact HO104.out) (by decide)) hk (fun _ h => h.2)) (fun _ h => h.1)); have n2_ := yaa (yar (by repeat (first | (with_reducible first | exact HK.out | apply yag | apply yal | apply yao | apply yam | refine yas ?_ GW101.out _) | exact HK.out)) hk (.inl rfl)); have n3_ := yaa (hb); have n4_ := yaa (hi); clear BK101; clear HO104; clear HK; clear HB; clear HI0; have BK101 := n0_; have HO104 := n1_; have HK := n2_; have HB := n3_; have HI0 := n4_; clear n0_ n1_ n2_ n3_ n4_; (try clear hb); (try clear hb2); (try clear hk); (try clear hi)) | ((with_reducible refine ybd (f := 116) rfl ?_); refine goesL_ (some 11) rfl rfl Try.func116 (by kernel_rfl) rfl #[.pointer (some ⟨g, 0, none⟩), .int .i64 80] rfl (by (try simp only [List.map_toArray, List.map_cons, List.map_nil]); first | done | rfl | (simp only [List.length_drop, List.length_take]; rfl)) ?_; (with_reducible refine (spec_l20Rd_pick.calls k g s0_0 t107 80 t108 t109 w0 _ ?side1 ?side2 A5.out).mono ?_); (case side1 => repeat (first | (with_reducible first | exact HI0.out | apply yab | apply yac | apply yaf | apply yad | refine yae ?_ NB0_101.out _) | exact HI0.out)); (case side2 => repeat (first | (with_reducible first | exact HB.out | apply yav | apply yan | apply yau | refine yai ?_ (yaz HI0.out) | refine yai ?_ GE101.out) | exact HB.out)); rintro e w92 ⟨rfl, hi, hb, hk⟩; refine ⟨_, rfl, ?_⟩; have n0_ := yaa (yay hk (g' := gb101) (o := .cells #[.slice none 0 0, .string (⟨#[]⟩ : ByteArray), .int .i64 0] 42 (0, 0)) (by (with_reducible repeat (first | refine yaj ?_ _ | refine yak ?_ | refine yah ?_ _)); exact BK101.out) NB101_0.out (by simp)); have n1_ := yaa (yax (ybc (yaw (show ybg w0 _ g s0_0 t107 from by repeat (first | (with_reducible first | exact HI0.out | apply yab | apply yac | apply yaf | apply yad | refine yae ?_ NB0_101.out _) | exact HI0.out)) (by (with_reducible repeat (first | apply yap | apply yaq | apply yat)); exact HO104.out) (by decide)) hk (fun _ h => h.2)) (fun _ h => h.1)); have n2_ := yaa (yar (by repeat (first | (with_reducible first | exact HK.out | apply yag | apply yal | apply yao | apply yam | refine yas ?_ GW101.out _) | exact HK.out)) hk (.inl rfl)); have n3_ := yaa (hb); have n4_ := yaa (hi); clear BK101; clear HO104; clear HK; clear HB; clear HI0; have BK101 := n0_; have HO104 := n1_; have HK := n2_; have HB := n3_; have HI0 := n4_; clear n0_ n1_ n2_ n3_ n4_; (try clear hb); (try clear hb2); (try clear hk); (try clear hi)) | ((with_reducible refine gate_dst (N := 12) rfl ?_); refine Kd.R_lit (Kd.int .i64) _ 3 ?hg (N := 12) ?hd (xs := ([9999, t108] : List Int)) (inner := [.int .i64 9999, .int .i64 t108]) (ok := fun _ => True) (okp := fun _ => True) ?hr ?hp (fun _ hk => hk) trivial (Below.refl _ _) (Nat.le_refl _) (by simp) ?_; (case hd => rfl); (case hg => rfl); (case hr => first | (go_simp; done) | (go_simp; rfl)); (case hp => exact (Reps.one (show Kd.M (Kd.int .i64) _ _ _ 9999 [.int .i64 9999] from rfl) (Reps.one (show Kd.M (Kd.int .i64) _ _ _ t108 [.int .i64 t108] from rfl) (Reps.none _ _)))); intro v111 w93 ho94 hb hg_ hnew_; clear hg_ hnew_; (first | rw [← Ny110.out] at ho94 | (simp only [Int.reduceToNat] at ho94; rw [← Ny110.out] at ho94)); have n0_ := yaa (ybj (by (with_reducible repeat (first | apply yap | apply yaq | apply yat)); exact HO104.out) hb); have n1_ := yaa (Kd.R_lower ho94 (ybh (w := w) (g := g) (row := none) (by repeat (first | (with_reducible first | exact HK.out | apply yag | apply yal | apply yao | apply yam | refine yas ?_ GW101.out _) | exact HK.out)))); have n2_ := yaa (ybi (by repeat (first | (with_reducible first | exact HI0.out | apply yab | apply yac | apply yaf | apply yad | refine yae ?_ NB0_101.out _) | exact HI0.out)) hb); have n3_ := yaa (blk_below (g := gb101) (o := .cells #[.slice none 0 0, .string (⟨#[]⟩ : ByteArray), .int .i64 0] 42 (0, 0)) (by (with_reducible repeat (first | refine yaj ?_ _ | refine yak ?_ | refine yah ?_ _)); exact BK101.out) hb); have n4_ := yaa (yar (by repeat (first | (with_reducible first | exact HK.out | apply yag | apply yal | apply yao | apply yam | refine yas ?_ GW101.out _) | exact HK.out)) (ybf hb g none) (.inl rfl)); have n5_ := yaa (below_step (by repeat (first | (with_reducible first | exact HB.out | apply yav | apply yan | apply yau | refine yai ?_ (yaz HI0.out) | refine yai ?_ GE101.out) | exact HB.out)) hb); clear HO104; clear HI0; clear BK101; clear HK; clear HB; have HO104 := n0_; have HO112 := n1_; have HI0 := n2_; have BK101 := n3_; have HK := n4_; have HB := n5_; clear n0_ n1_ n2_ n3_ n4_ n5_; clear hb ho94) | ((with_reducible refine ybd (f := 116) rfl ?_); refine goesL_ (some 14) rfl rfl Try.func116 (by kernel_rfl) rfl #[.pointer (some ⟨g, 0, none⟩), .int .i64 2] rfl (by (try simp only [List.map_toArray, List.map_cons, List.map_nil]); first | done | rfl | (simp only [List.length_drop, List.length_take]; rfl)) ?_; (with_reducible refine (spec_l20Rd_pick.calls k g s0_0 t109 2 t113 t114 w0 _ ?side1 ?side2 A6.out).mono ?_); (case side1 => repeat (first | (with_reducible first | exact HI0.out | apply yab | apply yac | apply yaf | apply yad | refine yae ?_ NB0_101.out _) | exact HI0.out)); (case side2 => repeat (first | (with_reducible first | exact HB.out | apply yav | apply yan | apply yau | refine yai ?_ (yaz HI0.out) | refine yai ?_ GE101.out) | exact HB.out)); rintro e w95 ⟨rfl, hi, hb, hk⟩; refine ⟨_, rfl, ?_⟩; have n0_ := yaa (yay hk (g' := gb101) (o := .cells #[.slice none 0 0, .string (⟨#[]⟩ : ByteArray), .int .i64 0] 42 (0, 0)) (by (with_reducible repeat (first | refine yaj ?_ _ | refine yak ?_ | refine yah ?_ _)); exact BK101.out) NB101_0.out (by simp)); have n1_ := yaa (yax (ybc (yaw (show ybg w0 _ g s0_0 t109 from by repeat (first | (with_reducible first | exact HI0.out | apply yab | apply yac | apply yaf | apply yad | refine yae ?_ NB0_101.out _) | exact HI0.out)) (by (with_reducible repeat (first | apply yap | apply yaq | apply yat)); exact HO104.out) (by decide)) hk (fun _ h => h.2)) (fun _ h => h.1)); have n2_ := yaa (yax (ybc (yaw (show ybg w0 _ g s0_0 t109 from by repeat (first | (with_reducible first | exact HI0.out | apply yab | apply yac | apply yaf | apply yad | refine yae ?_ NB0_101.out _) | exact HI0.out)) (by (with_reducible repeat (first | apply yap | apply yaq | apply yat)); exact HO112.out) (by decide)) hk (fun _ h => h.2)) (fun _ h => h.1)); have n3_ := yaa (yar (by repeat (first | (with_reducible first | exact HK.out | apply yag | apply yal | apply yao | apply yam | refine yas ?_ GW101.out _) | exact HK.out)) hk (.inl rfl)); have n4_ := yaa (hb); have n5_ := yaa (hi); clear BK101; clear HO104; clear HO112; clear HK; clear HB; clear HI0; have BK101 := n0_; have HO104 := n1_; have HO112 := n2_; have HK := n3_; have HB := n4_; have HI0 := n5_; clear n0_ n1_ n2_ n3_ n4_ n5_; (try clear hb); (try clear hb2); (try clear hk); (try clear hi); obtain ⟨Ao96, co96, eo96⟩ := Kd.R_slice HO112.out; subst eo96; have p115 : 0 ≤ (t113 : Int) := of_decide_eq_true (by first | (with_reducible assumption) | assumption); have q115 : t113 < (y110.length : Int) := of_decide_eq_true (by first | (with_reducible assumption) | assumption); obtain ⟨ad115, e115, hx115_0⟩ := Kd.at_int (Kd.R_reads' HO112.out).2.2 t113 p115 q115; cases e115; replace p115 := eq_true p115; replace q115 := eq_true q115; obtain ⟨Ao97, co97, eo97⟩ := Kd.R_slice HO104.out; subst eo97) | ((with_reducible refine gate_dst (N := 5) rfl ?_); refine box_event ?hg (N := 5) ?hd (cs := #[.slice none 0 0, .string (⟨#[]⟩ : ByteArray), .int .i64 0]) (t := 42) ?hr ?_; (case hd => rfl); (case hg => rfl); (case hr => first | (go_simp; done) | (go_simp; rfl)); intro gb116 hg w98 hbox hb; have n0_ := yaa (ybj (by (with_reducible repeat (first | apply yap | apply yaq | apply yat)); exact HO104.out) hb); have n1_ := yaa (ybj (by (with_reducible repeat (first | apply yap | apply yaq | apply yat)); exact HO112.out) hb); have n2_ := yaa (ybi (by repeat (first | (with_reducible first | exact HI0.out | apply yab | apply yac | apply yaf | apply yad | refine yae ?_ NB0_101.out _) | exact HI0.out)) hb); have n3_ := yaa (blk_below (g := gb101) (o := .cells #[.slice none 0 0, .string (⟨#[]⟩ : ByteArray), .int .i64 0] 42 (0, 0)) (by (with_reducible repeat (first | refine yaj ?_ _ | refine yak ?_ | refine yah ?_ _)); exact BK101.out) hb); have n4_ := yaa (yar (by repeat (first | (with_reducible first | exact HK.out | apply yag | apply yal | apply yao | apply yam | refine yas ?_ GW101.out _) | exact HK.out)) (ybf hb g none) (.inl rfl)); have n5_ := yaa (below_step (by repeat (first | (with_reducible first | exact HB.out | apply yav | apply yan | apply yau | refine yai ?_ (yaz HI0.out) | refine yai ?_ GE101.out) | exact HB.out)) hb); have n6_ := yaa (hbox); have n7_ := yaa ((by rw [hg]; exact (ybh (w := w) (g := g) (row := none) (by repeat (first | (with_reducible first | exact HK.out | apply yag | apply yal | apply yao | apply yam | refine yas ?_ GW101.out _) | exact HK.out))) : w.heap.size ≤ gb116)); have n8_ := yaa ((Nat.le_trans HW0.out (by rw [hg]; exact (ybh (w := w) (g := g) (row := none) (by repeat (first | (with_reducible first | exact HK.out | apply yag | apply yal | apply yao | apply yam | refine yas ?_ GW101.out _) | exact HK.out))) : w.heap.size ≤ gb116) : w0.heap.size ≤ gb116)); have n9_ := yaa ((by rw [hg]; exact Nat.ne_of_lt (blk_lt (g := gb101) (o := .cells #[.slice none 0 0, .string (⟨#[]⟩ : ByteArray), .int .i64 0] 42 (0, 0)) (by (with_reducible repeat (first | refine yaj ?_ _ | refine yak ?_ | refine yah ?_ _)); exact BK101.out)) : gb101 ≠ gb116)); have n10_ := yaa ((by rw [hg]; exact Nat.ne_of_gt (blk_lt (g := gb101) (o := .cells #[.slice none 0 0, .string (⟨#[]⟩ : ByteArray), .int .i64 0] 42 (0, 0)) (by (with_reducible repeat (first | refine yaj ?_ _ | refine yak ?_ | refine yah ?_ _)); exact BK101.out)) : gb116 ≠ gb101)); have n11_ := yaa ((by rw [hg]; exact Nat.ne_of_lt (IsS143.lt (show ybg w0 _ g s0_0 t114 from by repeat (first | (with_reducible first | exact HI0.out | apply yab | apply yac | apply yaf | apply yad | refine yae ?_ NB0_101.out _) | exact HI0.out))) : g ≠ gb116)); have n12_ := yaa ((by rw [hg]; exact Nat.ne_of_gt (IsS143.lt (show ybg w0 _ g s0_0 t114 from by repeat (first | (with_reducible first | exact HI0.out | apply yab | apply yac | apply yaf | apply yad | refine yae ?_ NB0_101.out _) | exact HI0.out))) : gb116 ≠ g)); clear HO104; clear HO112; clear HI0; clear BK101; clear HK; clear HB; have HO104 := n0_; have HO112 := n1_; have HI0 := n2_; have BK101 := n3_; have HK := n4_; have HB := n5_; have BK116 := n6_; have GW116 := n7_; have GE116 := n8_; have NB101_116 := n9_; have NB116_101 := n10_; have NB0_116 := n11_; have NB116_0 := n12_; clear n0_ n1_ n2_ n3_ n4_ n5_ n6_ n7_ n8_ n9_ n10_ n11_ n12_; clear hb hbox hg; have hnb99 := NB116_101.out; have hnc99 := NB101_116.out; have hnb100 := NB116_0.out; have hnc100 := NB0_116.out; have hcz101_0 : w98.cell? ⟨gb116, 0, none⟩ = some (.slice none 0 0) := (ybb BK116.out 0).trans rfl; have hcz101_1 : w98.cell? ⟨gb116, 1, none⟩ = some (.string (⟨#[]⟩ : ByteArray)) := (ybb BK116.out 1).trans rfl; have hcz101_2 : w98.cell? ⟨gb116, 2, none⟩ = some (.int .i64 0) := (ybb BK116.out 2).trans rfl; have hfz101_0 := yba BK116.out 0; have hfz101_1 := yba BK116.out 1; have hfz101_2 := yba BK116.out 2) | ((with_reducible refine ybd (f := 117) rfl ?_); refine goesL_ (some 20) rfl rfl Try.func117 (by kernel_rfl) rfl #[.pointer (some ⟨g, 0, none⟩), .int .i64 a1] rfl (by (try simp only [List.map_toArray, List.map_cons, List.map_nil]); first | done | rfl | (simp only [List.length_drop, List.length_take]; rfl)) ?_; (with_reducible refine (spec_l20Rd_odd.calls k g s0_0 t114 a1 false t118 w0 _ ?side1 ?side2 A9.out).mono ?_); (case side1 => repeat (first | (with_reducible first | exact HI0.out | apply yab | apply yac | apply yaf | apply yad | refine yae ?_ NB0_101.out _ | refine yae ?_ NB0_116.out _) | exact HI0.out)); (case side2 => repeat (first | (with_reducible first | exact HB.out | apply yav | apply yan | apply yau | refine yai ?_ (yaz HI0.out) | refine yai ?_ GE101.out | refine yai ?_ GE116.out) | exact HB.out)); rintro e w102 ⟨rfl, hi, hb, hk⟩; refine ⟨_, rfl, ?_⟩; have n0_ := yaa (yay hk (g' := gb101) (o := .cells #[.slice none 0 0, .string (⟨#[]⟩ : ByteArray), .int .i64 0] 42 (0, 0)) (by (with_reducible repeat (first | refine yaj ?_ _ | refine yak ?_ | refine yah ?_ _)); refine blk_far ?_ NB101_116.out _; (with_reducible repeat (first | refine yaj ?_ _ | refine yak ?_ | refine yah ?_ _)); refine blk_far ?_ NB101_116.out _; (with_reducible repeat (first | refine yaj ?_ _ | refine yak ?_ | refine yah ?_ _)); refine blk_far ?_ NB101_116.out _; (with_reducible repeat (first | refine yaj ?_ _ | refine yak ?_ | refine yah ?_ _)); exact BK101.out) NB101_0.out (by simp)); have n1_ := yaa (yax (ybc (yaw (show ybg w0 _ g s0_0 t114 from by repeat (first | (with_reducible first | exact HI0.out | apply yab | apply yac | apply yaf | apply yad | refine yae ?_ NB0_101.out _ | refine yae ?_ NB0_116.out _) | exact HI0.out)) (by (with_reducible repeat (first | apply yap | apply yaq | apply yat)); exact (yax (ybe (p := ⟨gb116, 2, none⟩) (ybe (p := ⟨gb116, 1, none⟩) (ybe (p := ⟨gb116, 0, none⟩) (ybk HO104.out BK116.out (by decide)) (fun _ hk => hk.2) (.slice Ao97 t102.length co97)) (fun _ hk => hk.2) (.string t106)) (fun _ hk => hk.2) (.int .i64 (rd y110 t113))) (fun _ h_ => h_.1))) (by decide)) hk (fun _ h => h.2)) (fun _ h => h.1)); have n2_ := yaa (yax (ybc (yaw (show ybg w0 _ g s0_0 t114 from by repeat (first | (with_reducible first | exact HI0.out | apply yab | apply yac | apply yaf | apply yad | refine yae ?_ NB0_101.out _ | refine yae ?_ NB0_116.out _) | exact HI0.out)) (by (with_reducible repeat (first | apply yap | apply yaq | apply yat)); exact (yax (ybe (p := ⟨gb116, 2, none⟩) (ybe (p := ⟨gb116, 1, none⟩) (ybe (p := ⟨gb116, 0, none⟩) (ybk HO112.out BK116.out (by decide)) (fun _ hk => hk.2) (.slice Ao97 t102.length co97)) (fun _ hk => hk.2) (.string t106)) (fun _ hk => hk.2) (.int .i64 (rd y110 t113))) (fun _ h_ => h_.1))) (by decide)) hk (fun _ h => h.2)) (fun _ h => h.1)); have n3_ := yaa (yay hk (g' := gb116) (o := .cells #[.slice Ao97 t102.length co97, .string t106, .int .i64 (rd y110 t113)] 42 (0, 0)) (by (with_reducible repeat (first | refine yaj ?_ _ | refine yak ?_ | refine yah ?_ _)); refine blk_put (cs := #[.slice Ao97 t102.length co97, .string t106, .int .i64 0]) ?_ 2 _ rfl; (with_reducible repeat (first | refine yaj ?_ _ | refine yak ?_ | refine yah ?_ _)); refine blk_put (cs := #[.slice Ao97 t102.length co97, .string (⟨#[]⟩ : ByteArray), .int .i64 0]) ?_ 1 _ rfl; (with_reducible repeat (first | refine yaj ?_ _ | refine yak ?_ | refine yah ?_ _)); refine blk_put (cs := #[.slice none 0 0, .string (⟨#[]⟩ : ByteArray), .int .i64 0]) ?_ 0 _ rfl; (with_reducible repeat (first | refine yaj ?_ _ | refine yak ?_ | refine yah ?_ _)); exact BK116.out) NB116_0.out (by simp)); have n4_ := yaa (yar (by repeat (first | (with_reducible first | exact HK.out | apply yag | apply yal | apply yao | apply yam | refine yas ?_ GW101.out _ | refine yas ?_ GW116.out _) | exact HK.out)) hk (.inl rfl)); have n5_ := yaa (hb); have n6_ := yaa (hi); clear BK101; clear HO104; clear HO112; clear BK116; clear HK; clear HB; clear HI0; have BK101 := n0_; have HO104 := n1_; have HO112 := n2_; have BK116 := n3_; have HK := n4_; have HB := n5_; have HI0 := n6_; clear n0_ n1_ n2_ n3_ n4_ n5_ n6_; (try clear hb); (try clear hb2); (try clear hk); (try clear hi); have hcz103_0 : w102.cell? ⟨gb116, 0, none⟩ = some (.slice Ao97 t102.length co97) := (ybb BK116.out 0).trans rfl; have hcz103_1 : w102.cell? ⟨gb116, 1, none⟩ = some (.string t106) := (ybb BK116.out 1).trans rfl; have hcz103_2 : w102.cell? ⟨gb116, 2, none⟩ = some (.int .i64 (rd y110 t113)) := (ybb BK116.out 2).trans rfl; have hfz103_0 := yba BK116.out 0; have hfz103_1 := yba BK116.out 1; have hfz103_2 := yba BK116.out 2; have hnb104 := NB101_0.out; have hnc104 := NB0_101.out; have hcz105_0 : w102.cell? ⟨gb101, 0, none⟩ = some (.slice none 0 0) := (ybb BK101.out 0).trans rfl; have hcz105_1 : w102.cell? ⟨gb101, 1, none⟩ = some (.string (⟨#[]⟩ : ByteArray)) := (ybb BK101.out 1).trans rfl; have hcz105_2 : w102.cell? ⟨gb101, 2, none⟩ = some (.int .i64 0) := (ybb BK101.out 2).trans rfl; have hfz105_0 := yba BK101.out 0; have hfz105_1 := yba BK101.out 1; have hfz105_2 := yba BK101.out 2))
    refine bodyPost_ret (results_cell_row rfl _ _ gb101 42 #[.slice Ao97 t102.length co97, .string t106, .int .i64 (rd y110 t113)] (0, 0) _ rfl (by (with_reducible repeat (first | refine yaj ?_ _ | refine yak ?_ | refine yah ?_ _)); refine blk_put (cs := #[.slice Ao97 t102.length co97, .string t106, .int .i64 0]) ?_ 2 _ rfl; (with_reducible repeat (first | refine yaj ?_ _ | refine yak ?_ | refine yah ?_ _)); refine blk_put (cs := #[.slice Ao97 t102.length co97, .string (⟨#[]⟩ : ByteArray), .int .i64 0]) ?_ 1 _ rfl; (with_reducible repeat (first | refine yaj ?_ _ | refine yak ?_ | refine yah ?_ _)); refine blk_put (cs := #[.slice none 0 0, .string (⟨#[]⟩ : ByteArray), .int .i64 0]) ?_ 0 _ rfl; (with_reducible repeat (first | refine yaj ?_ _ | refine yak ?_ | refine yah ?_ _)); exact BK101.out) Try.underlying42 rfl (by kernel_rfl)) rfl ?_
    exact ⟨_, by first | rfl | (simp [errW_none, errW_some] <;> rfl) | (simp [*, errW_none, errW_some] <;> rfl), by (with_reducible repeat (first | apply yap | apply yaq | apply yat)); exact yax (ybe (p := ⟨gb101, 2, none⟩) (ybe (p := ⟨gb101, 1, none⟩) (ybe (p := ⟨gb101, 0, none⟩) (ybk HO104.out BK101.out (by decide)) (fun _ hk => hk.2) (.slice Ao97 t102.length co97)) (fun _ hk => hk.2) (.string t106)) (fun _ hk => hk.2) (.int .i64 (rd y110 t113))) (fun _ hk => trivial), by repeat (first | (with_reducible first | exact HI0.out | apply yab | apply yac | apply yaf | apply yad | refine yae ?_ NB0_101.out _ | refine yae ?_ NB0_116.out _) | exact HI0.out), by repeat (first | (with_reducible first | exact HB.out | apply yav | apply yan | apply yau | refine yai ?_ (yaz HI0.out) | refine yai ?_ GE101.out | refine yai ?_ GE116.out) | exact HB.out), by repeat (first | (with_reducible first | exact HK.out | apply yag | apply yal | apply yao | apply yam | refine yas ?_ GW101.out _ | refine yas ?_ GW116.out _) | exact HK.out)⟩
  ·
   rw [if_neg c8] at H
   exact absurd H (by simp)
 ·
  rw [if_neg c7] at H
  exact absurd H (by simp)

end Go.Proofs.Ytgpkkkmapgnhkaa.X

namespace Go.Proofs.Ytgpkkkmapgnhkaa.X
open Go.RowKit Go.Proofs.YtgpkkkmapgnhkaaW.PrintWords Go.Proofs.Ytgpkkkmapgnhkaa.Pl
set_option linter.unusedSimpArgs false
set_option linter.unusedVariables false
theorem l20Path_tot {l : List Int} (hl : Bytes l) (p : Int) (h0 : 0 ≤ p) (h1 : p ≤ 900000000000) : Tot (fun k => spec_l20Path.f k l p) (fun x => x.2 = p + 1) := by
  simp only [spec_l20Path.f]
  refine Tot.some_bind ?_
  refine Tot.bind (pick_tot hl p 5 h0 (by omega)) ?_
  rintro ⟨r0, p0⟩ ⟨e1, e2, e3, -⟩
  dsimp only at e1 e2 e3 ⊢
  refine Tot.pos e2 (Tot.pos ?_ (Tot.ret e1))
  simp only [List.length_cons, List.length_nil]; omega
theorem l20Ask_tot {l : List Int} (hl : Bytes l) (p n : Int) (h0 : 0 ≤ p) (h1 : p ≤ 500000000000) (hn : n ≤ 1000) :
    Tot (fun k => spec_l20Ask.f k l p n) (fun x => x.1.length ≤ 101 ∧ 0 ≤ x.2.2.2 ∧ x.2.2.2 ≤ p + 200) := by
  simp only [spec_l20Ask.f]
  refine Tot.bind (l20Ops_tot hl p 0 h0 (by omega) (by omega)) ?_
  rintro ⟨ops, p0⟩ ⟨f1, f2, f3⟩
  dsimp only at f1 f2 f3 ⊢
  refine Tot.bind (l20Path_tot hl p0 (by omega) (by omega)) ?_
  rintro ⟨s, p1⟩ f4
  dsimp only at f4 ⊢
  refine Tot.bind (pick_tot hl p1 80 (by omega) (by omega)) ?_
  rintro ⟨r2, p2⟩ ⟨e4, -, -, -⟩
  dsimp only at e4 ⊢
  refine Tot.some_bind ?_
  refine Tot.bind (pick_tot hl p2 2 (by omega) (by omega)) ?_
  rintro ⟨r3, p3⟩ ⟨e5, e6, e7, -⟩
  dsimp only at e5 e6 e7 ⊢
  refine Tot.pos e6 (Tot.pos (by simp only [List.length_cons, List.length_nil]; omega) ?_)
  refine Tot.bind (odd_tot hl p3 n (by omega) (by omega) (by omega)) ?_
  rintro ⟨b4, p4⟩ ⟨e8, e9, -⟩
  dsimp only at e8 e9 ⊢
  refine Tot.ite ?_ ?_ <;> intro hb
  · refine Tot.bind (pick_tot hl p4 3 (by omega) (by omega)) ?_
    rintro ⟨r5, p5⟩ ⟨e10, e11, e12, -⟩
    dsimp only at e10 e11 e12 ⊢
    refine Tot.ite ?_ ?_ <;> intro h
    · refine Tot.some_bind ?_
      refine Tot.bind (pick_tot hl p5 4 (by omega) (by omega)) ?_
      rintro ⟨r6, p6⟩ ⟨g1, g2, g3, -⟩
      dsimp only at g1 g2 g3 ⊢
      exact Tot.pos g2 (Tot.pos (by simp only [List.length_cons, List.length_nil]; omega) (Tot.ret ⟨by dsimp only; omega, by dsimp only; omega, by dsimp only; omega⟩))
    refine Tot.ite ?_ ?_ <;> intro h
    · refine Tot.some_bind ?_
      refine Tot.bind (pick_tot hl p5 2 (by omega) (by omega)) ?_
      rintro ⟨r6, p6⟩ ⟨g1, g2, g3, -⟩
      dsimp only at g1 g2 g3 ⊢
      exact Tot.pos g2 (Tot.pos (by simp only [List.length_cons, List.length_nil]; omega) (Tot.ret ⟨by dsimp only; omega, by dsimp only; omega, by dsimp only; omega⟩))
    · refine Tot.bind (l20Op_tot hl p5 1 (by omega) (by omega) (by omega)) ?_
      rintro ⟨o, a, b, c', d, q⟩ ⟨g1, g2⟩
      dsimp only at g1 g2 ⊢
      exact Tot.pos (by omega) (Tot.ret ⟨by dsimp only; rw [List.length_append]; simp only [List.length_cons, List.length_nil]; omega, by dsimp only; omega, by dsimp only; omega⟩)
  · exact Tot.ret ⟨by dsimp only; omega, by dsimp only; omega, by dsimp only; omega⟩
end Go.Proofs.Ytgpkkkmapgnhkaa.X

namespace Go.Proofs.Ytgpkkkmapgnhkaa.X
open Go.RowKit Go.Proofs.YtgpkkkmapgnhkaaW.PrintWords Go.Proofs.YtgpkkkmapgnhkaaW.PrintLast Go.Proofs.YtgpkkkmapgnhkaaW.PrintMore
attribute [local go_sem] max2_int min2_int max_two min_two max_three min_three max_four min_four   -- for this text's walks alone
set_option linter.unusedVariables false
set_option linter.unusedSimpArgs false

/-! ### impl_within: function 62 -/
def impl_within.f (a0 : Int) (a1 : Int) (a2 : Int) : Option (Bool) := if a0 ≥ a1 then (some (decide (a0 ≤ a2))) else (some false)
set_option maxHeartbeats 8000000 in
set_option maxRecDepth 100000 in
theorem impl_within.calls (a0 : Int) (a1 : Int) (a2 : Int) (r : Bool) (w : World) (h : impl_within.f a0 a1 a2 = some r) :
    Calls Try.prog 62 #[.int .i64 a0, .int .i64 a1, .int .i64 a2] w fun e w' => e = .returned (.bool r) ∧ Drawn0 w w' := by
  have H : (if a0 ≥ a1 then (some (decide (a0 ≤ a2))) else (some false)) = some r := h
  clear h
  by_cases c4 : a0 ≥ a1
  · rw [if_pos c4] at H
    have c4b0 : decide (a1 ≤ a0) = true := decide_eq_true c4
    clear c4
    obtain rfl := Option.some.inj H
    go_enter Try.func62, Try.ntmps62
    go_wp2
    go_ret
    exact ⟨by first | rfl | (simp; done) | (simp [*]; done), by repeat (first | exact Drawn0.refl _ | apply Drawn0.step)⟩
  · rw [if_neg c4] at H
    have c4b0 : decide (a1 ≤ a0) = false := decide_eq_false c4
    clear c4
    obtain rfl := Option.some.inj H
    go_enter Try.func62, Try.ntmps62
    go_wp2
    go_ret
    exact ⟨by first | rfl | (simp; done) | (simp [*]; done), by repeat (first | exact Drawn0.refl _ | apply Drawn0.step)⟩

end Go.Proofs.Ytgpkkkmapgnhkaa.X

namespace Go.Proofs.Ytgpkkkmapgnhkaa.X
open Go.RowKit Go.Proofs.YtgpkkkmapgnhkaaW.PrintWords Go.Proofs.YtgpkkkmapgnhkaaW.PrintLast Go.Proofs.YtgpkkkmapgnhkaaW.PrintMore
attribute [local go_sem] max2_int min2_int max_two min_two max_three min_three max_four min_four   -- for this text's walks alone
set_option linter.unusedVariables false
set_option linter.unusedSimpArgs false

theorem eqA146 (d : Nat) (w : World) (x0 y0 : Int) (x1 y1 : Int) (x2 y2 : Int) (x3 y3 : Int) (x4 y4 : Int) :
    (Op.equalIn (d + 2) 146 (.agg #[.int .i64 x0, .int .i64 x1, .int .i64 x2, .int .i64 x3, .int .i64 x4]) (.agg #[.int .i64 y0, .int .i64 y1, .int .i64 y2, .int .i64 y3, .int .i64 y4])).run Try.prog w = .ok (x0 == y0 && (x1 == y1 && (x2 == y2 && (x3 == y3 && (x4 == y4))))) w := by
  refine eqA_of Try.underlying146 (by kernel_rfl) ?_
  refine eqf_cons (by rfl) (by go_simp; rfl) (by go_simp; rfl) (by go_simp) ?_
  refine eqf_cons (by rfl) (by go_simp; rfl) (by go_simp; rfl) (by go_simp) ?_
  refine eqf_cons (by rfl) (by go_simp; rfl) (by go_simp; rfl) (by go_simp) ?_
  refine eqf_cons (by rfl) (by go_simp; rfl) (by go_simp; rfl) (by go_simp) ?_
  exact eqf_last (by rfl) (by go_simp; rfl) (by go_simp; rfl) (by go_simp)
end Go.Proofs.Ytgpkkkmapgnhkaa.X

namespace Go.Proofs.Ytgpkkkmapgnhkaa.X
open Go.RowKit Go.Proofs.YtgpkkkmapgnhkaaW.PrintWords Go.Proofs.YtgpkkkmapgnhkaaW.PrintLast Go.Proofs.YtgpkkkmapgnhkaaW.PrintMore
attribute [local go_sem] max2_int min2_int max_two min_two max_three min_three max_four min_four   -- for this text's walks alone
set_option linter.unusedVariables false
set_option linter.unusedSimpArgs false

/-! ### impl_partOk: function 118 -/
def impl_partOk.f (a0 : Int) : Option (Bool) := if a0 ≥ 0 then (some (decide (a0 ≤ 255))) else (some false)
set_option maxHeartbeats 8000000 in
set_option maxRecDepth 100000 in
theorem impl_partOk.calls (a0 : Int) (r : Bool) (w : World) (h : impl_partOk.f a0 = some r) :
    Calls Try.prog 118 #[.int .i64 a0] w fun e w' => e = .returned (.bool r) ∧ Drawn0 w w' := by
  have H : (if a0 ≥ 0 then (some (decide (a0 ≤ 255))) else (some false)) = some r := h
  clear h
  by_cases c2 : a0 ≥ 0
  · rw [if_pos c2] at H
    have c2b0 : decide (0 ≤ a0) = true := decide_eq_true c2
    clear c2
    obtain rfl := Option.some.inj H
    go_enter Try.func118, Try.ntmps118
    go_wp2
    go_ret
    exact ⟨by first | rfl | (simp; done) | (simp [*]; done), by repeat (first | exact Drawn0.refl _ | apply Drawn0.step)⟩
  · rw [if_neg c2] at H
    have c2b0 : decide (0 ≤ a0) = false := decide_eq_false c2
    clear c2
    obtain rfl := Option.some.inj H
    go_enter Try.func118, Try.ntmps118
    go_wp2
    go_ret
    exact ⟨by first | rfl | (simp; done) | (simp [*]; done), by repeat (first | exact Drawn0.refl _ | apply Drawn0.step)⟩

end Go.Proofs.Ytgpkkkmapgnhkaa.X

namespace Go.Proofs.Ytgpkkkmapgnhkaa.X
open Go.RowKit Go.Proofs.YtgpkkkmapgnhkaaW.PrintWords Go.Proofs.YtgpkkkmapgnhkaaW.PrintLast Go.Proofs.YtgpkkkmapgnhkaaW.PrintMore
attribute [local go_sem] max2_int min2_int max_two min_two max_three min_three max_four min_four   -- for this text's walks alone
set_option linter.unusedVariables false
set_option linter.unusedSimpArgs false

/-! ### impl_sizeOk: function 143 -/
def impl_sizeOk.f (a0 : Int) : Option (Bool) := if a0 ≥ 1 then (some (decide (a0 ≤ 6))) else (some false)
set_option maxHeartbeats 8000000 in
set_option maxRecDepth 100000 in
theorem impl_sizeOk.calls (a0 : Int) (r : Bool) (w : World) (h : impl_sizeOk.f a0 = some r) :
    Calls Try.prog 143 #[.int .i64 a0] w fun e w' => e = .returned (.bool r) ∧ Drawn0 w w' := by
  have H : (if a0 ≥ 1 then (some (decide (a0 ≤ 6))) else (some false)) = some r := h
  clear h
  by_cases c2 : a0 ≥ 1
  · rw [if_pos c2] at H
    have c2b0 : decide (1 ≤ a0) = true := decide_eq_true c2
    clear c2
    obtain rfl := Option.some.inj H
    go_enter Try.func143, Try.ntmps143
    go_wp2
    go_ret
    exact ⟨by first | rfl | (simp; done) | (simp [*]; done), by repeat (first | exact Drawn0.refl _ | apply Drawn0.step)⟩
  · rw [if_neg c2] at H
    have c2b0 : decide (1 ≤ a0) = false := decide_eq_false c2
    clear c2
    obtain rfl := Option.some.inj H
    go_enter Try.func143, Try.ntmps143
    go_wp2
    go_ret
    exact ⟨by first | rfl | (simp; done) | (simp [*]; done), by repeat (first | exact Drawn0.refl _ | apply Drawn0.step)⟩

end Go.Proofs.Ytgpkkkmapgnhkaa.X

namespace Go.Proofs.Ytgpkkkmapgnhkaa.X
open Go.RowKit Go.Proofs.YtgpkkkmapgnhkaaW.PrintWords Go.Proofs.YtgpkkkmapgnhkaaW.PrintLast Go.Proofs.YtgpkkkmapgnhkaaW.PrintMore
attribute [local go_sem] max2_int min2_int max_two min_two max_three min_three max_four min_four   -- for this text's walks alone
set_option linter.unusedVariables false
set_option linter.unusedSimpArgs false

attribute [local go_sem high] eqA146
/-! ### impl_OpOk: function 121 -/
def impl_OpOk.j0 : Nat → Int → Bool → Int → Int → Int → Int → Int → Option (Bool)
  | 0, _, _, _, _, _, _, _ => none
  | k + 1, x4, x25, x102000, x102001, x102002, x102003, x102004 => if x25 = true then (some (x102001 == 0 && (x102002 == 0 && (x102003 == 0 && (x102004 == 0))))) else (if x4 = 7 then ((impl_sizeOk.f x102001).bind fun t106 => (if t106 = true then ((impl_sizeOk.f x102002).bind fun t107 => (if t107 = true then (if x102003 = 0 then (some (x102004 == 0)) else (some false)) else (some false))) else (some false))) else (if x4 = 8 then ((impl_partOk.f x102001).bind fun t108 => (if t108 = true then ((impl_partOk.f x102002).bind fun t109 => (if t109 = true then ((impl_partOk.f x102003).bind fun t110 => (if t110 = true then (some (x102004 == 0)) else (some false))) else (some false))) else (some false))) else (some false)))
def impl_OpOk.f (k : Nat) (a0_0 : Int) (a0_1 : Int) (a0_2 : Int) (a0_3 : Int) (a0_4 : Int) : Option (Bool) := if a0_0 = 1 then ((impl_within.f a0_1 0 5).bind fun t102 => (if t102 = true then ((impl_within.f a0_2 0 5).bind fun t103 => (if t103 = true then ((impl_sizeOk.f a0_3).bind fun t104 => (if t104 = true then ((impl_sizeOk.f a0_4).bind fun t105 => (some t105)) else (some false))) else (some false))) else (some false))) else (if a0_0 = 2 then (impl_OpOk.j0 k a0_0 (a0_0 == 2) a0_0 a0_1 a0_2 a0_3 a0_4) else (if a0_0 = 3 then (impl_OpOk.j0 k a0_0 (a0_0 == 3) a0_0 a0_1 a0_2 a0_3 a0_4) else (if a0_0 = 4 then (impl_OpOk.j0 k a0_0 (a0_0 == 4) a0_0 a0_1 a0_2 a0_3 a0_4) else (if a0_0 = 5 then (impl_OpOk.j0 k a0_0 (a0_0 == 5) a0_0 a0_1 a0_2 a0_3 a0_4) else (impl_OpOk.j0 k a0_0 (a0_0 == 6) a0_0 a0_1 a0_2 a0_3 a0_4)))))
theorem impl_OpOk.mono_l : ∀ k, (∀ y0 y1 y2 y3 y4 y5 y6, LeO (impl_OpOk.j0 k y0 y1 y2 y3 y4 y5 y6) (impl_OpOk.j0 (k + 1) y0 y1 y2 y3 y4 y5 y6))
  | 0 => fun _ _ _ _ _ _ _ r h => by simp [impl_OpOk.j0] at h
  | k + 1 => by
    have ih0 := impl_OpOk.mono_l k
    · intro y0 y1 y2 y3 y4 y5 y6
      unfold impl_OpOk.j0
      repeat' first
      | (with_reducible exact ih0 _ _ _ _ _ _ _)
      | (with_reducible exact LeO.refl _)
      | (with_reducible exact LeO.none _)
      | (with_reducible refine LeO.ite ?_ ?_)
      | (with_reducible refine LeO.bind ?_ (fun _ => ?_))
      | exact ih0 _ _ _ _ _ _ _
      | exact LeO.none _
      | refine LeO.ite ?_ ?_
      | refine LeO.bind ?_ (fun _ => ?_)
theorem impl_OpOk.mono : ∀ a0 a1 a2 a3 a4 k, LeO (impl_OpOk.f k a0 a1 a2 a3 a4) (impl_OpOk.f (k + 1) a0 a1 a2 a3 a4) := by
  intro a0 a1 a2 a3 a4 k
  have ih0 := impl_OpOk.mono_l k
  unfold impl_OpOk.f
  repeat' first
      | (with_reducible exact ih0 _ _ _ _ _ _ _)
      | (with_reducible exact LeO.refl _)
      | (with_reducible exact LeO.none _)
      | (with_reducible refine LeO.ite ?_ ?_)
      | (with_reducible refine LeO.bind ?_ (fun _ => ?_))
      | exact ih0 _ _ _ _ _ _ _
      | exact LeO.none _
      | refine LeO.ite ?_ ?_
      | refine LeO.bind ?_ (fun _ => ?_)
set_option maxHeartbeats 8000000 in
set_option maxRecDepth 100000 in
theorem impl_OpOk.calls (k : Nat) (a0_0 : Int) (a0_1 : Int) (a0_2 : Int) (a0_3 : Int) (a0_4 : Int) (r : Bool) (w : World) (h : impl_OpOk.f k a0_0 a0_1 a0_2 a0_3 a0_4 = some r) :
    Calls Try.prog 121 #[.agg #[.int .i64 a0_0, .int .i64 a0_1, .int .i64 a0_2, .int .i64 a0_3, .int .i64 a0_4]] w fun e w' => e = .returned (.bool r) ∧ Below w.heap.size w w' := by
  have hu146 := Try.underlying146
  have HB := Aside0.mk (Below.refl w.heap.size w)
  have H : (if a0_0 = 1 then ((impl_within.f a0_1 0 5).bind fun t102 => (if t102 = true then ((impl_within.f a0_2 0 5).bind fun t103 => (if t103 = true then ((impl_sizeOk.f a0_3).bind fun t104 => (if t104 = true then ((impl_sizeOk.f a0_4).bind fun t105 => (some t105)) else (some false))) else (some false))) else (some false))) else (if a0_0 = 2 then (impl_OpOk.j0 k a0_0 (a0_0 == 2) a0_0 a0_1 a0_2 a0_3 a0_4) else (if a0_0 = 3 then (impl_OpOk.j0 k a0_0 (a0_0 == 3) a0_0 a0_1 a0_2 a0_3 a0_4) else (if a0_0 = 4 then (impl_OpOk.j0 k a0_0 (a0_0 == 4) a0_0 a0_1 a0_2 a0_3 a0_4) else (if a0_0 = 5 then (impl_OpOk.j0 k a0_0 (a0_0 == 5) a0_0 a0_1 a0_2 a0_3 a0_4) else (impl_OpOk.j0 k a0_0 (a0_0 == 6) a0_0 a0_1 a0_2 a0_3 a0_4)))))) = some r := h
  clear h
  by_cases c2 : a0_0 = 1
  · rw [if_pos c2] at H
    have c2b0 : (a0_0 == 1) = true := beq_iff_eq.mpr c2
    have c2b1 : (a0_0 != 1) = false := bne_eq_false_iff_eq.mpr c2
    clear c2
    replace H := Option.bind_eq_some_iff.mp H
    obtain ⟨t102, A30, H⟩ := H
    replace H : (if t102 = true then ((impl_within.f a0_2 0 5).bind fun t103 => (if t103 = true then ((impl_sizeOk.f a0_3).bind fun t104 => (if t104 = true then ((impl_sizeOk.f a0_4).bind fun t105 => (some t105)) else (some false))) else (some false))) else (some false)) = some r := H
    have A3 := Aside0.mk A30
    clear A30
    by_cases c4 : t102 = true
    · subst c4
      have H1 : ((impl_within.f a0_2 0 5).bind fun t103 => (if t103 = true then ((impl_sizeOk.f a0_3).bind fun t104 => (if t104 = true then ((impl_sizeOk.f a0_4).bind fun t105 => (some t105)) else (some false))) else (some false))) = some r := by rw [if_pos rfl] at H; exact H
      clear H
      have H := H1
      clear H1
      replace H := Option.bind_eq_some_iff.mp H
      obtain ⟨t103, A50, H⟩ := H
      replace H : (if t103 = true then ((impl_sizeOk.f a0_3).bind fun t104 => (if t104 = true then ((impl_sizeOk.f a0_4).bind fun t105 => (some t105)) else (some false))) else (some false)) = some r := H
      have A5 := Aside0.mk A50
      clear A50
      by_cases c6 : t103 = true
      · subst c6
        have H1 : ((impl_sizeOk.f a0_3).bind fun t104 => (if t104 = true then ((impl_sizeOk.f a0_4).bind fun t105 => (some t105)) else (some false))) = some r := by rw [if_pos rfl] at H; exact H
        clear H
        have H := H1
        clear H1
        replace H := Option.bind_eq_some_iff.mp H
        obtain ⟨t104, A70, H⟩ := H
        replace H : (if t104 = true then ((impl_sizeOk.f a0_4).bind fun t105 => (some t105)) else (some false)) = some r := H
        have A7 := Aside0.mk A70
        clear A70
        by_cases c8 : t104 = true
        · subst c8
          have H1 : ((impl_sizeOk.f a0_4).bind fun t105 => (some t105)) = some r := by rw [if_pos rfl] at H; exact H
          clear H
          have H := H1
          clear H1
          replace H := Option.bind_eq_some_iff.mp H
          obtain ⟨t105, A90, H⟩ := H
          replace H : (some t105) = some r := H
          have A9 := Aside0.mk A90
          clear A90
          obtain rfl := Option.some.inj H
          go_enter Try.func121, Try.ntmps121
          go_wp2_with (first | ((with_reducible refine gate_dst (N := 1) rfl ?_); refine box_event ?hg (N := 1) ?hd (cs := #[.int .i64 a0_0, .int .i64 a0_1, .int .i64 a0_2, .int .i64 a0_3, .int .i64 a0_4]) (t := 146) ?hr ?_; (case hd => rfl); (case hg => rfl); (case hr => first | (go_simp; done) | (go_simp; rfl)); intro gb101 hg w10 hbox hb; have n0_ := Aside0.mk (below_step (by repeat (first | (with_reducible first | exact HB.out | apply below_alloc | apply pw_below_drewN | apply below_drew1) | exact HB.out)) hb); have n1_ := Aside0.mk (hbox); have n2_ := Aside0.mk ((by rw [hg]; exact (below_size (by repeat (first | (with_reducible first | exact HB.out | apply below_alloc | apply pw_below_drewN | apply below_drew1) | exact HB.out))) : w.heap.size ≤ gb101)); have n3_ := Aside0.mk ((by rw [hg]; exact (below_size (by repeat (first | (with_reducible first | exact HB.out | apply below_alloc | apply pw_below_drewN | apply below_drew1) | exact HB.out))) : w.heap.size ≤ gb101)); clear HB; have HB := n0_; have BK101 := n1_; have GW101 := n2_; have GE101 := n3_; clear n0_ n1_ n2_ n3_; clear hb hbox hg; have hcz11_0 : w10.cell? ⟨gb101, 0, none⟩ = some (.int .i64 a0_0) := (blk_cell BK101.out 0).trans rfl; have hcz11_1 : w10.cell? ⟨gb101, 1, none⟩ = some (.int .i64 a0_1) := (blk_cell BK101.out 1).trans rfl; have hcz11_2 : w10.cell? ⟨gb101, 2, none⟩ = some (.int .i64 a0_2) := (blk_cell BK101.out 2).trans rfl; have hcz11_3 : w10.cell? ⟨gb101, 3, none⟩ = some (.int .i64 a0_3) := (blk_cell BK101.out 3).trans rfl; have hcz11_4 : w10.cell? ⟨gb101, 4, none⟩ = some (.int .i64 a0_4) := (blk_cell BK101.out 4).trans rfl; have hfz11_0 := blk_frozen BK101.out 0; have hfz11_1 := blk_frozen BK101.out 1; have hfz11_2 := blk_frozen BK101.out 2; have hfz11_3 := blk_frozen BK101.out 3; have hfz11_4 := blk_frozen BK101.out 4) | ((with_reducible refine gate_callee (f := 62) rfl ?_); refine goesL_ (some 9) rfl rfl Try.func62 (by kernel_rfl) rfl #[.int .i64 a0_1, .int .i64 0, .int .i64 5] rfl (by (try simp only [List.map_toArray, List.map_cons, List.map_nil]); first | done | rfl | (simp only [List.length_drop, List.length_take]; rfl)) ?_; (with_reducible refine (impl_within.calls a0_1 0 5 true _ A3.out).mono ?_); rintro e w' ⟨rfl, ⟨nd, rfl⟩⟩; refine ⟨_, rfl, ?_⟩) | (go_at_call 62; (with_reducible refine (impl_within.calls a0_2 0 5 true _ A5.out).mono ?_); rintro e w' ⟨rfl, ⟨nd, rfl⟩⟩) | (go_at_call 143; (with_reducible refine (impl_sizeOk.calls a0_3 true _ A7.out).mono ?_); rintro e w' ⟨rfl, ⟨nd, rfl⟩⟩) | (go_at_call 143; (with_reducible refine (impl_sizeOk.calls a0_4 t105 _ A9.out).mono ?_); rintro e w' ⟨rfl, ⟨nd, rfl⟩⟩))
          go_ret
          exact ⟨by first | rfl | (simp [errW_none, errW_some] <;> rfl) | (simp [*, errW_none, errW_some] <;> rfl), by repeat (first | (with_reducible first | exact HB.out | apply below_alloc | apply pw_below_drewN | apply below_drew1 | refine below_set ?_ GE101.out) | exact HB.out)⟩
        · replace c8 := Bool.eq_false_iff.mpr c8
          subst c8
          have H1 : (some false) = some r := by rw [if_neg (show ¬ (false = true) by decide)] at H; exact H
          clear H
          have H := H1
          clear H1
          obtain rfl := Option.some.inj H
          go_enter Try.func121, Try.ntmps121
          go_wp2_with (first | ((with_reducible refine gate_dst (N := 1) rfl ?_); refine box_event ?hg (N := 1) ?hd (cs := #[.int .i64 a0_0, .int .i64 a0_1, .int .i64 a0_2, .int .i64 a0_3, .int .i64 a0_4]) (t := 146) ?hr ?_; (case hd => rfl); (case hg => rfl); (case hr => first | (go_simp; done) | (go_simp; rfl)); intro gb101 hg w12 hbox hb; have n0_ := Aside0.mk (below_step (by repeat (first | (with_reducible first | exact HB.out | apply below_alloc | apply pw_below_drewN | apply below_drew1) | exact HB.out)) hb); have n1_ := Aside0.mk (hbox); have n2_ := Aside0.mk ((by rw [hg]; exact (below_size (by repeat (first | (with_reducible first | exact HB.out | apply below_alloc | apply pw_below_drewN | apply below_drew1) | exact HB.out))) : w.heap.size ≤ gb101)); have n3_ := Aside0.mk ((by rw [hg]; exact (below_size (by repeat (first | (with_reducible first | exact HB.out | apply below_alloc | apply pw_below_drewN | apply below_drew1) | exact HB.out))) : w.heap.size ≤ gb101)); clear HB; have HB := n0_; have BK101 := n1_; have GW101 := n2_; have GE101 := n3_; clear n0_ n1_ n2_ n3_; clear hb hbox hg; have hcz13_0 : w12.cell? ⟨gb101, 0, none⟩ = some (.int .i64 a0_0) := (blk_cell BK101.out 0).trans rfl; have hcz13_1 : w12.cell? ⟨gb101, 1, none⟩ = some (.int .i64 a0_1) := (blk_cell BK101.out 1).trans rfl; have hcz13_2 : w12.cell? ⟨gb101, 2, none⟩ = some (.int .i64 a0_2) := (blk_cell BK101.out 2).trans rfl; have hcz13_3 : w12.cell? ⟨gb101, 3, none⟩ = some (.int .i64 a0_3) := (blk_cell BK101.out 3).trans rfl; have hcz13_4 : w12.cell? ⟨gb101, 4, none⟩ = some (.int .i64 a0_4) := (blk_cell BK101.out 4).trans rfl; have hfz13_0 := blk_frozen BK101.out 0; have hfz13_1 := blk_frozen BK101.out 1; have hfz13_2 := blk_frozen BK101.out 2; have hfz13_3 := blk_frozen BK101.out 3; have hfz13_4 := blk_frozen BK101.out 4) | ((with_reducible refine gate_callee (f := 62) rfl ?_); refine goesL_ (some 9) rfl rfl Try.func62 (by kernel_rfl) rfl #[.int .i64 a0_1, .int .i64 0, .int .i64 5] rfl (by (try simp only [List.map_toArray, List.map_cons, List.map_nil]); first | done | rfl | (simp only [List.length_drop, List.length_take]; rfl)) ?_; (with_reducible refine (impl_within.calls a0_1 0 5 true _ A3.out).mono ?_); rintro e w' ⟨rfl, ⟨nd, rfl⟩⟩; refine ⟨_, rfl, ?_⟩) | (go_at_call 62; (with_reducible refine (impl_within.calls a0_2 0 5 true _ A5.out).mono ?_); rintro e w' ⟨rfl, ⟨nd, rfl⟩⟩) | (go_at_call 143; (with_reducible refine (impl_sizeOk.calls a0_3 false _ A7.out).mono ?_); rintro e w' ⟨rfl, ⟨nd, rfl⟩⟩))
          go_ret
          exact ⟨by first | rfl | (simp [errW_none, errW_some] <;> rfl) | (simp [*, errW_none, errW_some] <;> rfl), by repeat (first | (with_reducible first | exact HB.out | apply below_alloc | apply pw_below_drewN | apply below_drew1 | refine below_set ?_ GE101.out) | exact HB.out)⟩
      · replace c6 := Bool.eq_false_iff.mpr c6
        subst c6
        have H1 : (some false) = some r := by rw [if_neg (show ¬ (false = true) by decide)] at H; exact H
        clear H
        have H := H1
        clear H1
        obtain rfl := Option.some.inj H
        go_enter Try.func121, Try.ntmps121
        go_wp2_with (first | ((with_reducible refine gate_dst (N := 1) rfl ?_); refine box_event ?hg (N := 1) ?hd (cs := #[.int .i64 a0_0, .int .i64 a0_1, .int .i64 a0_2, .int .i64 a0_3, .int .i64 a0_4]) (t := 146) ?hr ?_; (case hd => rfl); (case hg => rfl); (case hr => first | (go_simp; done) | (go_simp; rfl)); intro gb101 hg w14 hbox hb; have n0_ := Aside0.mk (below_step (by repeat (first | (with_reducible first | exact HB.out | apply below_alloc | apply pw_below_drewN | apply below_drew1) | exact HB.out)) hb); have n1_ := Aside0.mk (hbox); have n2_ := Aside0.mk ((by rw [hg]; exact (below_size (by repeat (first | (with_reducible first | exact HB.out | apply below_alloc | apply pw_below_drewN | apply below_drew1) | exact HB.out))) : w.heap.size ≤ gb101)); have n3_ := Aside0.mk ((by rw [hg]; exact (below_size (by repeat (first | (with_reducible first | exact HB.out | apply below_alloc | apply pw_below_drewN | apply below_drew1) | exact HB.out))) : w.heap.size ≤ gb101)); clear HB; have HB := n0_; have BK101 := n1_; have GW101 := n2_; have GE101 := n3_; clear n0_ n1_ n2_ n3_; clear hb hbox hg; have hcz15_0 : w14.cell? ⟨gb101, 0, none⟩ = some (.int .i64 a0_0) := (blk_cell BK101.out 0).trans rfl; have hcz15_1 : w14.cell? ⟨gb101, 1, none⟩ = some (.int .i64 a0_1) := (blk_cell BK101.out 1).trans rfl; have hcz15_2 : w14.cell? ⟨gb101, 2, none⟩ = some (.int .i64 a0_2) := (blk_cell BK101.out 2).trans rfl; have hcz15_3 : w14.cell? ⟨gb101, 3, none⟩ = some (.int .i64 a0_3) := (blk_cell BK101.out 3).trans rfl; have hcz15_4 : w14.cell? ⟨gb101, 4, none⟩ = some (.int .i64 a0_4) := (blk_cell BK101.out 4).trans rfl; have hfz15_0 := blk_frozen BK101.out 0; have hfz15_1 := blk_frozen BK101.out 1; have hfz15_2 := blk_frozen BK101.out 2; have hfz15_3 := blk_frozen BK101.out 3; have hfz15_4 := blk_frozen BK101.out 4) | ((with_reducible refine gate_callee (f := 62) rfl ?_); refine goesL_ (some 9) rfl rfl Try.func62 (by kernel_rfl) rfl #[.int .i64 a0_1, .int .i64 0, .int .i64 5] rfl (by (try simp only [List.map_toArray, List.map_cons, List.map_nil]); first | done | rfl | (simp only [List.length_drop, List.length_take]; rfl)) ?_; (with_reducible refine (impl_within.calls a0_1 0 5 true _ A3.out).mono ?_); rintro e w' ⟨rfl, ⟨nd, rfl⟩⟩; refine ⟨_, rfl, ?_⟩) | (go_at_call 62; (with_reducible refine (impl_within.calls a0_2 0 5 false _ A5.out).mono ?_); rintro e w' ⟨rfl, ⟨nd, rfl⟩⟩))
        go_ret
        exact ⟨by first | rfl | (simp [errW_none, errW_some] <;> rfl) | (simp [*, errW_none, errW_some] <;> rfl), by repeat (first | (with_reducible first | exact HB.out | apply below_alloc | apply pw_below_drewN | apply below_drew1 | refine below_set ?_ GE101.out) | exact HB.out)⟩
    · replace c4 := Bool.eq_false_iff.mpr c4
      subst c4
      have H1 : (some false) = some r := by rw [if_neg (show ¬ (false = true) by decide)] at H; exact H
      clear H
      have H := H1
      clear H1
      obtain rfl := Option.some.inj H
      go_enter Try.func121, Try.ntmps121
      go_wp2_with (first | ((with_reducible refine gate_dst (N := 1) rfl ?_); refine box_event ?hg (N := 1) ?hd (cs := #[.int .i64 a0_0, .int .i64 a0_1, .int .i64 a0_2, .int .i64 a0_3, .int .i64 a0_4]) (t := 146) ?hr ?_; (case hd => rfl); (case hg => rfl); (case hr => first | (go_simp; done) | (go_simp; rfl)); intro gb101 hg w16 hbox hb; have n0_ := Aside0.mk (below_step (by repeat (first | (with_reducible first | exact HB.out | apply below_alloc | apply pw_below_drewN | apply below_drew1) | exact HB.out)) hb); have n1_ := Aside0.mk (hbox); have n2_ := Aside0.mk ((by rw [hg]; exact (below_size (by repeat (first | (with_reducible first | exact HB.out | apply below_alloc | apply pw_below_drewN | apply below_drew1) | exact HB.out))) : w.heap.size ≤ gb101)); have n3_ := Aside0.mk ((by rw [hg]; exact (below_size (by repeat (first | (with_reducible first | exact HB.out | apply below_alloc | apply pw_below_drewN | apply below_drew1) | exact HB.out))) : w.heap.size ≤ gb101)); clear HB; have HB := n0_; have BK101 := n1_; have GW101 := n2_; have GE101 := n3_; clear n0_ n1_ n2_ n3_; clear hb hbox hg; have hcz17_0 : w16.cell? ⟨gb101, 0, none⟩ = some (.int .i64 a0_0) := (blk_cell BK101.out 0).trans rfl; have hcz17_1 : w16.cell? ⟨gb101, 1, none⟩ = some (.int .i64 a0_1) := (blk_cell BK101.out 1).trans rfl; have hcz17_2 : w16.cell? ⟨gb101, 2, none⟩ = some (.int .i64 a0_2) := (blk_cell BK101.out 2).trans rfl; have hcz17_3 : w16.cell? ⟨gb101, 3, none⟩ = some (.int .i64 a0_3) := (blk_cell BK101.out 3).trans rfl; have hcz17_4 : w16.cell? ⟨gb101, 4, none⟩ = some (.int .i64 a0_4) := (blk_cell BK101.out 4).trans rfl; have hfz17_0 := blk_frozen BK101.out 0; have hfz17_1 := blk_frozen BK101.out 1; have hfz17_2 := blk_frozen BK101.out 2; have hfz17_3 := blk_frozen BK101.out 3; have hfz17_4 := blk_frozen BK101.out 4) | ((with_reducible refine gate_callee (f := 62) rfl ?_); refine goesL_ (some 9) rfl rfl Try.func62 (by kernel_rfl) rfl #[.int .i64 a0_1, .int .i64 0, .int .i64 5] rfl (by (try simp only [List.map_toArray, List.map_cons, List.map_nil]); first | done | rfl | (simp only [List.length_drop, List.length_take]; rfl)) ?_; (with_reducible refine (impl_within.calls a0_1 0 5 false _ A3.out).mono ?_); rintro e w' ⟨rfl, ⟨nd, rfl⟩⟩; refine ⟨_, rfl, ?_⟩))
      go_ret
      exact ⟨by first | rfl | (simp [errW_none, errW_some] <;> rfl) | (simp [*, errW_none, errW_some] <;> rfl), by repeat (first | (with_reducible first | exact HB.out | apply below_alloc | apply pw_below_drewN | apply below_drew1 | refine below_set ?_ GE101.out) | exact HB.out)⟩
  · rw [if_neg c2] at H
    have c2b0 : (a0_0 == 1) = false := beq_eq_false_iff_ne.mpr c2
    have c2b1 : (a0_0 != 1) = true := bne_iff_ne.mpr c2
    have HC18 := Aside0.mk H
    clear H
    go_enter Try.func121, Try.ntmps121
    go_upto_if 25 with (first | ((with_reducible refine gate_dst (N := 1) rfl ?_); refine box_event ?hg (N := 1) ?hd (cs := #[.int .i64 a0_0, .int .i64 a0_1, .int .i64 a0_2, .int .i64 a0_3, .int .i64 a0_4]) (t := 146) ?hr ?_; (case hd => rfl); (case hg => rfl); (case hr => first | (go_simp; done) | (go_simp; rfl)); intro gb101 hg w19 hbox hb; have n0_ := Aside0.mk (below_step (by repeat (first | (with_reducible first | exact HB.out | apply below_alloc | apply pw_below_drewN | apply below_drew1) | exact HB.out)) hb); have n1_ := Aside0.mk (hbox); have n2_ := Aside0.mk ((by rw [hg]; exact (below_size (by repeat (first | (with_reducible first | exact HB.out | apply below_alloc | apply pw_below_drewN | apply below_drew1) | exact HB.out))) : w.heap.size ≤ gb101)); have n3_ := Aside0.mk ((by rw [hg]; exact (below_size (by repeat (first | (with_reducible first | exact HB.out | apply below_alloc | apply pw_below_drewN | apply below_drew1) | exact HB.out))) : w.heap.size ≤ gb101)); clear HB; have HB := n0_; have BK101 := n1_; have GW101 := n2_; have GE101 := n3_; clear n0_ n1_ n2_ n3_; clear hb hbox hg; have hcz20_0 : w19.cell? ⟨gb101, 0, none⟩ = some (.int .i64 a0_0) := (blk_cell BK101.out 0).trans rfl; have hcz20_1 : w19.cell? ⟨gb101, 1, none⟩ = some (.int .i64 a0_1) := (blk_cell BK101.out 1).trans rfl; have hcz20_2 : w19.cell? ⟨gb101, 2, none⟩ = some (.int .i64 a0_2) := (blk_cell BK101.out 2).trans rfl; have hcz20_3 : w19.cell? ⟨gb101, 3, none⟩ = some (.int .i64 a0_3) := (blk_cell BK101.out 3).trans rfl; have hcz20_4 : w19.cell? ⟨gb101, 4, none⟩ = some (.int .i64 a0_4) := (blk_cell BK101.out 4).trans rfl; have hfz20_0 := blk_frozen BK101.out 0; have hfz20_1 := blk_frozen BK101.out 1; have hfz20_2 := blk_frozen BK101.out 2; have hfz20_3 := blk_frozen BK101.out 3; have hfz20_4 := blk_frozen BK101.out 4))
    (try simp only [Act.put, List.setIfInBounds_toArray, List.set_cons_zero, List.set_cons_succ])
    go_cut [25] (fun v25 wc => ∃ (kq : Nat) (x25_17 : Bool), v25 = .bool x25_17 ∧ Aside0 (impl_OpOk.j0 kq a0_0 x25_17 a0_0 a0_1 a0_2 a0_3 a0_4 = some r) ∧ Aside0 (kq ≤ k) ∧ Aside0 (wc.heap[gb101]? = some (.cells #[.int .i64 a0_0, .int .i64 a0_1, .int .i64 a0_2, .int .i64 a0_3, .int .i64 a0_4] 146 (0, 0))) ∧ Aside0 (Below w.heap.size w wc))
    case first =>
      have H := HC18.out
      clear HC18
      by_cases c21 : a0_0 = 2
      · rw [if_pos c21] at H
        have c21b0 : (a0_0 == 2) = true := beq_iff_eq.mpr c21
        have c21b1 : (a0_0 != 2) = false := bne_eq_false_iff_eq.mpr c21
        clear c21
        (first | rw [c21b0] | (simp only [i64_w, i32_w]; rw [c21b0]) | skip)
        have H' := Aside0.mk H
        clear H
        go_wp2
        go_meet
        case rel => exact ⟨_, ((a0_0 == 2)), (by first | rfl | (simp; done) | (simp [*]; done)), H', ⟨by first | omega | exact Nat.le_refl _⟩, ⟨by (with_reducible repeat (first | refine blk_drewN ?_ _ | refine blk_drew ?_ | refine blk_alloc ?_ _)); exact BK101.out⟩, ⟨by repeat (first | (with_reducible first | exact HB.out | apply below_alloc | apply pw_below_drewN | apply below_drew1 | refine below_set ?_ GE101.out) | exact HB.out)⟩⟩
      · rw [if_neg c21] at H
        have c21b0 : (a0_0 == 2) = false := beq_eq_false_iff_ne.mpr c21
        have c21b1 : (a0_0 != 2) = true := bne_iff_ne.mpr c21
        (first | rw [c21b0] | (simp only [i64_w, i32_w]; rw [c21b0]) | skip)
        by_cases c22 : a0_0 = 3
        · rw [if_pos c22] at H
          have c22b0 : (a0_0 == 3) = true := beq_iff_eq.mpr c22
          have c22b1 : (a0_0 != 3) = false := bne_eq_false_iff_eq.mpr c22
          clear c22
          have H' := Aside0.mk H
          clear H
          go_wp2
          go_meet
          case rel => exact ⟨_, ((a0_0 == 3)), (by first | rfl | (simp; done) | (simp [*]; done)), H', ⟨by first | omega | exact Nat.le_refl _⟩, ⟨by (with_reducible repeat (first | refine blk_drewN ?_ _ | refine blk_drew ?_ | refine blk_alloc ?_ _)); exact BK101.out⟩, ⟨by repeat (first | (with_reducible first | exact HB.out | apply below_alloc | apply pw_below_drewN | apply below_drew1 | refine below_set ?_ GE101.out) | exact HB.out)⟩⟩
        · rw [if_neg c22] at H
          have c22b0 : (a0_0 == 3) = false := beq_eq_false_iff_ne.mpr c22
          have c22b1 : (a0_0 != 3) = true := bne_iff_ne.mpr c22
          by_cases c23 : a0_0 = 4
          · rw [if_pos c23] at H
            have c23b0 : (a0_0 == 4) = true := beq_iff_eq.mpr c23
            have c23b1 : (a0_0 != 4) = false := bne_eq_false_iff_eq.mpr c23
            clear c23
            have H' := Aside0.mk H
            clear H
            go_wp2
            go_meet
            case rel => exact ⟨_, ((a0_0 == 4)), (by first | rfl | (simp; done) | (simp [*]; done)), H', ⟨by first | omega | exact Nat.le_refl _⟩, ⟨by (with_reducible repeat (first | refine blk_drewN ?_ _ | refine blk_drew ?_ | refine blk_alloc ?_ _)); exact BK101.out⟩, ⟨by repeat (first | (with_reducible first | exact HB.out | apply below_alloc | apply pw_below_drewN | apply below_drew1 | refine below_set ?_ GE101.out) | exact HB.out)⟩⟩
          · rw [if_neg c23] at H
            have c23b0 : (a0_0 == 4) = false := beq_eq_false_iff_ne.mpr c23
            have c23b1 : (a0_0 != 4) = true := bne_iff_ne.mpr c23
            by_cases c24 : a0_0 = 5
            · rw [if_pos c24] at H
              have c24b0 : (a0_0 == 5) = true := beq_iff_eq.mpr c24
              have c24b1 : (a0_0 != 5) = false := bne_eq_false_iff_eq.mpr c24
              clear c24
              have H' := Aside0.mk H
              clear H
              go_wp2
              go_meet
              case rel => exact ⟨_, ((a0_0 == 5)), (by first | rfl | (simp; done) | (simp [*]; done)), H', ⟨by first | omega | exact Nat.le_refl _⟩, ⟨by (with_reducible repeat (first | refine blk_drewN ?_ _ | refine blk_drew ?_ | refine blk_alloc ?_ _)); exact BK101.out⟩, ⟨by repeat (first | (with_reducible first | exact HB.out | apply below_alloc | apply pw_below_drewN | apply below_drew1 | refine below_set ?_ GE101.out) | exact HB.out)⟩⟩
            · rw [if_neg c24] at H
              have c24b0 : (a0_0 == 5) = false := beq_eq_false_iff_ne.mpr c24
              have c24b1 : (a0_0 != 5) = true := bne_iff_ne.mpr c24
              have H' := Aside0.mk H
              clear H
              go_wp2
              go_meet
              case rel => exact ⟨_, ((a0_0 == 6)), (by first | rfl | (simp; done) | (simp [*]; done)), H', ⟨by first | omega | exact Nat.le_refl _⟩, ⟨by (with_reducible repeat (first | refine blk_drewN ?_ _ | refine blk_drew ?_ | refine blk_alloc ?_ _)); exact BK101.out⟩, ⟨by repeat (first | (with_reducible first | exact HB.out | apply below_alloc | apply pw_below_drewN | apply below_drew1 | refine below_set ?_ GE101.out) | exact HB.out)⟩⟩
    case rest =>
      clear HC18
      try clear c1
      try clear c2
      try clear c2b0
      try clear c2b1
      try clear p2
      try clear c4
      try clear c6
      try clear c8
      try clear c12
      try clear c21
      try clear c21b0
      try clear c21b1
      try clear c22
      try clear c22b0
      try clear c22b1
      try clear c23
      try clear c23b0
      try clear c23b1
      try clear c24
      try clear c24b0
      try clear c24b1
      try clear hcz11_0
      try clear hcz11_1
      try clear hcz11_2
      try clear hcz11_3
      try clear hcz11_4
      try clear hcz13_0
      try clear hcz13_1
      try clear hcz13_2
      try clear hcz13_3
      try clear hcz13_4
      try clear hcz15_0
      try clear hcz15_1
      try clear hcz15_2
      try clear hcz15_3
      try clear hcz15_4
      try clear hcz17_0
      try clear hcz17_1
      try clear hcz17_2
      try clear hcz17_3
      try clear hcz17_4
      try clear hcz20_0
      try clear hcz20_1
      try clear hcz20_2
      try clear hcz20_3
      try clear hcz20_4
      try clear hfz11_0
      try clear hfz11_1
      try clear hfz11_2
      try clear hfz11_3
      try clear hfz11_4
      try clear hfz13_0
      try clear hfz13_1
      try clear hfz13_2
      try clear hfz13_3
      try clear hfz13_4
      try clear hfz15_0
      try clear hfz15_1
      try clear hfz15_2
      try clear hfz15_3
      try clear hfz15_4
      try clear hfz17_0
      try clear hfz17_1
      try clear hfz17_2
      try clear hfz17_3
      try clear hfz17_4
      try clear hfz20_0
      try clear hfz20_1
      try clear hfz20_2
      try clear hfz20_3
      try clear hfz20_4
      obtain ⟨kq, x25_17, rfl, HA, HJ17, BK101, HB⟩ := hcut
      cases kq with
      | zero => exact absurd HA.out (by simp [impl_OpOk.j0])
      | succ kj17 =>
        have H := HA.out
        clear HA
        simp only [impl_OpOk.j0] at H
        by_cases c25 : x25_17 = true
        · subst c25
          have H1 : (some (a0_1 == 0 && (a0_2 == 0 && (a0_3 == 0 && (a0_4 == 0))))) = some r := by rw [if_pos rfl] at H; exact H
          clear H
          have H := H1
          clear H1
          obtain rfl := Option.some.inj H
          have hcz26_0 : wc.cell? ⟨gb101, 0, none⟩ = some (.int .i64 a0_0) := (blk_cell BK101.out 0).trans rfl
          have hcz26_1 : wc.cell? ⟨gb101, 1, none⟩ = some (.int .i64 a0_1) := (blk_cell BK101.out 1).trans rfl
          have hcz26_2 : wc.cell? ⟨gb101, 2, none⟩ = some (.int .i64 a0_2) := (blk_cell BK101.out 2).trans rfl
          have hcz26_3 : wc.cell? ⟨gb101, 3, none⟩ = some (.int .i64 a0_3) := (blk_cell BK101.out 3).trans rfl
          have hcz26_4 : wc.cell? ⟨gb101, 4, none⟩ = some (.int .i64 a0_4) := (blk_cell BK101.out 4).trans rfl
          have hfz26_0 := blk_frozen BK101.out 0
          have hfz26_1 := blk_frozen BK101.out 1
          have hfz26_2 := blk_frozen BK101.out 2
          have hfz26_3 := blk_frozen BK101.out 3
          have hfz26_4 := blk_frozen BK101.out 4
          go_wp2
          go_ret
          exact ⟨by first | rfl | (simp [errW_none, errW_some] <;> rfl) | (simp [*, errW_none, errW_some] <;> rfl), by repeat (first | (with_reducible first | exact HB.out | apply below_alloc | apply pw_below_drewN | apply below_drew1 | refine below_set ?_ GE101.out) | exact HB.out)⟩
        · replace c25 := Bool.eq_false_iff.mpr c25
          subst c25
          have H1 : (if a0_0 = 7 then ((impl_sizeOk.f a0_1).bind fun t106 => (if t106 = true then ((impl_sizeOk.f a0_2).bind fun t107 => (if t107 = true then (if a0_3 = 0 then (some (a0_4 == 0)) else (some false)) else (some false))) else (some false))) else (if a0_0 = 8 then ((impl_partOk.f a0_1).bind fun t108 => (if t108 = true then ((impl_partOk.f a0_2).bind fun t109 => (if t109 = true then ((impl_partOk.f a0_3).bind fun t110 => (if t110 = true then (some (a0_4 == 0)) else (some false))) else (some false))) else (some false))) else (some false))) = some r := by rw [if_neg (show ¬ (false = true) by decide)] at H; exact H
          clear H
          have H := H1
          clear H1
          by_cases c27 : a0_0 = 7
          · rw [if_pos c27] at H
            have c27b0 : (a0_0 == 7) = true := beq_iff_eq.mpr c27
            have c27b1 : (a0_0 != 7) = false := bne_eq_false_iff_eq.mpr c27
            clear c27
            replace H := Option.bind_eq_some_iff.mp H
            obtain ⟨t106, A280, H⟩ := H
            replace H : (if t106 = true then ((impl_sizeOk.f a0_2).bind fun t107 => (if t107 = true then (if a0_3 = 0 then (some (a0_4 == 0)) else (some false)) else (some false))) else (some false)) = some r := H
            have A28 := Aside0.mk A280
            clear A280
            by_cases c29 : t106 = true
            · subst c29
              have H1 : ((impl_sizeOk.f a0_2).bind fun t107 => (if t107 = true then (if a0_3 = 0 then (some (a0_4 == 0)) else (some false)) else (some false))) = some r := by rw [if_pos rfl] at H; exact H
              clear H
              have H := H1
              clear H1
              replace H := Option.bind_eq_some_iff.mp H
              obtain ⟨t107, A300, H⟩ := H
              replace H : (if t107 = true then (if a0_3 = 0 then (some (a0_4 == 0)) else (some false)) else (some false)) = some r := H
              have A30 := Aside0.mk A300
              clear A300
              by_cases c31 : t107 = true
              · subst c31
                have H1 : (if a0_3 = 0 then (some (a0_4 == 0)) else (some false)) = some r := by rw [if_pos rfl] at H; exact H
                clear H
                have H := H1
                clear H1
                by_cases c32 : a0_3 = 0
                · rw [if_pos c32] at H
                  have c32b0 : (a0_3 == 0) = true := beq_iff_eq.mpr c32
                  have c32b1 : (a0_3 != 0) = false := bne_eq_false_iff_eq.mpr c32
                  clear c32
                  obtain rfl := Option.some.inj H
                  have hcz33_0 : wc.cell? ⟨gb101, 0, none⟩ = some (.int .i64 a0_0) := (blk_cell BK101.out 0).trans rfl
                  have hcz33_1 : wc.cell? ⟨gb101, 1, none⟩ = some (.int .i64 a0_1) := (blk_cell BK101.out 1).trans rfl
                  have hcz33_2 : wc.cell? ⟨gb101, 2, none⟩ = some (.int .i64 a0_2) := (blk_cell BK101.out 2).trans rfl
                  have hcz33_3 : wc.cell? ⟨gb101, 3, none⟩ = some (.int .i64 a0_3) := (blk_cell BK101.out 3).trans rfl
                  have hcz33_4 : wc.cell? ⟨gb101, 4, none⟩ = some (.int .i64 a0_4) := (blk_cell BK101.out 4).trans rfl
                  have hfz33_0 := blk_frozen BK101.out 0
                  have hfz33_1 := blk_frozen BK101.out 1
                  have hfz33_2 := blk_frozen BK101.out 2
                  have hfz33_3 := blk_frozen BK101.out 3
                  have hfz33_4 := blk_frozen BK101.out 4
                  go_wp2_with (first | ((with_reducible refine gate_callee (f := 143) rfl ?_); refine goesL_ (some 40) rfl rfl Try.func143 (by kernel_rfl) rfl #[.int .i64 a0_1] rfl (by (try simp only [List.map_toArray, List.map_cons, List.map_nil]); first | done | rfl | (simp only [List.length_drop, List.length_take]; rfl)) ?_; (with_reducible refine (impl_sizeOk.calls a0_1 true _ A28.out).mono ?_); rintro e w' ⟨rfl, ⟨nd, rfl⟩⟩; refine ⟨_, rfl, ?_⟩) | (go_at_call 143; (with_reducible refine (impl_sizeOk.calls a0_2 true _ A30.out).mono ?_); rintro e w' ⟨rfl, ⟨nd, rfl⟩⟩))
                  go_ret
                  exact ⟨by first | rfl | (simp [errW_none, errW_some] <;> rfl) | (simp [*, errW_none, errW_some] <;> rfl), by repeat (first | (with_reducible first | exact HB.out | apply below_alloc | apply pw_below_drewN | apply below_drew1 | refine below_set ?_ GE101.out) | exact HB.out)⟩
                · rw [if_neg c32] at H
                  have c32b0 : (a0_3 == 0) = false := beq_eq_false_iff_ne.mpr c32
                  have c32b1 : (a0_3 != 0) = true := bne_iff_ne.mpr c32
                  obtain rfl := Option.some.inj H
                  have hcz34_0 : wc.cell? ⟨gb101, 0, none⟩ = some (.int .i64 a0_0) := (blk_cell BK101.out 0).trans rfl
                  have hcz34_1 : wc.cell? ⟨gb101, 1, none⟩ = some (.int .i64 a0_1) := (blk_cell BK101.out 1).trans rfl
                  have hcz34_2 : wc.cell? ⟨gb101, 2, none⟩ = some (.int .i64 a0_2) := (blk_cell BK101.out 2).trans rfl
                  have hcz34_3 : wc.cell? ⟨gb101, 3, none⟩ = some (.int .i64 a0_3) := (blk_cell BK101.out 3).trans rfl
                  have hcz34_4 : wc.cell? ⟨gb101, 4, none⟩ = some (.int .i64 a0_4) := (blk_cell BK101.out 4).trans rfl
                  have hfz34_0 := blk_frozen BK101.out 0
                  have hfz34_1 := blk_frozen BK101.out 1
                  have hfz34_2 := blk_frozen BK101.out 2
                  have hfz34_3 := blk_frozen BK101.out 3
                  have hfz34_4 := blk_frozen BK101.out 4
                  go_wp2_with (first | ((with_reducible refine gate_callee (f := 143) rfl ?_); refine goesL_ (some 40) rfl rfl Try.func143 (by kernel_rfl) rfl #[.int .i64 a0_1] rfl (by (try simp only [List.map_toArray, List.map_cons, List.map_nil]); first | done | rfl | (simp only [List.length_drop, List.length_take]; rfl)) ?_; (with_reducible refine (impl_sizeOk.calls a0_1 true _ A28.out).mono ?_); rintro e w' ⟨rfl, ⟨nd, rfl⟩⟩; refine ⟨_, rfl, ?_⟩) | (go_at_call 143; (with_reducible refine (impl_sizeOk.calls a0_2 true _ A30.out).mono ?_); rintro e w' ⟨rfl, ⟨nd, rfl⟩⟩))
                  go_ret
                  exact ⟨by first | rfl | (simp [errW_none, errW_some] <;> rfl) | (simp [*, errW_none, errW_some] <;> rfl), by repeat (first | (with_reducible first | exact HB.out | apply below_alloc | apply pw_below_drewN | apply below_drew1 | refine below_set ?_ GE101.out) | exact HB.out)⟩
              · replace c31 := Bool.eq_false_iff.mpr c31
                subst c31
                have H1 : (some false) = some r := by rw [if_neg (show ¬ (false = true) by decide)] at H; exact H
                clear H
                have H := H1
                clear H1
                obtain rfl := Option.some.inj H
                have hcz35_0 : wc.cell? ⟨gb101, 0, none⟩ = some (.int .i64 a0_0) := (blk_cell BK101.out 0).trans rfl
                have hcz35_1 : wc.cell? ⟨gb101, 1, none⟩ = some (.int .i64 a0_1) := (blk_cell BK101.out 1).trans rfl
                have hcz35_2 : wc.cell? ⟨gb101, 2, none⟩ = some (.int .i64 a0_2) := (blk_cell BK101.out 2).trans rfl
                have hcz35_3 : wc.cell? ⟨gb101, 3, none⟩ = some (.int .i64 a0_3) := (blk_cell BK101.out 3).trans rfl
                have hcz35_4 : wc.cell? ⟨gb101, 4, none⟩ = some (.int .i64 a0_4) := (blk_cell BK101.out 4).trans rfl
                have hfz35_0 := blk_frozen BK101.out 0
                have hfz35_1 := blk_frozen BK101.out 1
                have hfz35_2 := blk_frozen BK101.out 2
                have hfz35_3 := blk_frozen BK101.out 3
                have hfz35_4 := blk_frozen BK101.out 4
                go_wp2_with (first | ((with_reducible refine gate_callee (f := 143) rfl ?_); refine goesL_ (some 40) rfl rfl Try.func143 (by kernel_rfl) rfl #[.int .i64 a0_1] rfl (by (try simp only [List.map_toArray, List.map_cons, List.map_nil]); first | done | rfl | (simp only [List.length_drop, List.length_take]; rfl)) ?_; (with_reducible refine (impl_sizeOk.calls a0_1 true _ A28.out).mono ?_); rintro e w' ⟨rfl, ⟨nd, rfl⟩⟩; refine ⟨_, rfl, ?_⟩) | (go_at_call 143; (with_reducible refine (impl_sizeOk.calls a0_2 false _ A30.out).mono ?_); rintro e w' ⟨rfl, ⟨nd, rfl⟩⟩))
                go_ret
                exact ⟨by first | rfl | (simp [errW_none, errW_some] <;> rfl) | (simp [*, errW_none, errW_some] <;> rfl), by repeat (first | (with_reducible first | exact HB.out | apply below_alloc | apply pw_below_drewN | apply below_drew1 | refine below_set ?_ GE101.out) | exact HB.out)⟩
            · replace c29 := Bool.eq_false_iff.mpr c29
              subst c29
              have H1 : (some false) = some r := by rw [if_neg (show ¬ (false = true) by decide)] at H; exact H
              clear H
              have H := H1
              clear H1
              obtain rfl := Option.some.inj H
              have hcz36_0 : wc.cell? ⟨gb101, 0, none⟩ = some (.int .i64 a0_0) := (blk_cell BK101.out 0).trans rfl
              have hcz36_1 : wc.cell? ⟨gb101, 1, none⟩ = some (.int .i64 a0_1) := (blk_cell BK101.out 1).trans rfl
              have hcz36_2 : wc.cell? ⟨gb101, 2, none⟩ = some (.int .i64 a0_2) := (blk_cell BK101.out 2).trans rfl
              have hcz36_3 : wc.cell? ⟨gb101, 3, none⟩ = some (.int .i64 a0_3) := (blk_cell BK101.out 3).trans rfl
              have hcz36_4 : wc.cell? ⟨gb101, 4, none⟩ = some (.int .i64 a0_4) := (blk_cell BK101.out 4).trans rfl
              have hfz36_0 := blk_frozen BK101.out 0
              have hfz36_1 := blk_frozen BK101.out 1
              have hfz36_2 := blk_frozen BK101.out 2
              have hfz36_3 := blk_frozen BK101.out 3
              have hfz36_4 := blk_frozen BK101.out 4
              go_wp2_with (first | ((with_reducible refine gate_callee (f := 143) rfl ?_); refine goesL_ (some 40) rfl rfl Try.func143 (by kernel_rfl) rfl #[.int .i64 a0_1] rfl (by (try simp only [List.map_toArray, List.map_cons, List.map_nil]); first | done | rfl | (simp only [List.length_drop, List.length_take]; rfl)) ?_; (with_reducible refine (impl_sizeOk.calls a0_1 false _ A28.out).mono ?_); rintro e w' ⟨rfl, ⟨nd, rfl⟩⟩; refine ⟨_, rfl, ?_⟩))
              go_ret
              exact ⟨by first | rfl | (simp [errW_none, errW_some] <;> rfl) | (simp [*, errW_none, errW_some] <;> rfl), by repeat (first | (with_reducible first | exact HB.out | apply below_alloc | apply pw_below_drewN | apply below_drew1 | refine below_set ?_ GE101.out) | exact HB.out)⟩
          · rw [if_neg c27] at H
            have c27b0 : (a0_0 == 7) = false := beq_eq_false_iff_ne.mpr c27
            have c27b1 : (a0_0 != 7) = true := bne_iff_ne.mpr c27
            by_cases c37 : a0_0 = 8
            · rw [if_pos c37] at H
              have c37b0 : (a0_0 == 8) = true := beq_iff_eq.mpr c37
              have c37b1 : (a0_0 != 8) = false := bne_eq_false_iff_eq.mpr c37
              clear c37
              replace H := Option.bind_eq_some_iff.mp H
              obtain ⟨t108, A380, H⟩ := H
              replace H : (if t108 = true then ((impl_partOk.f a0_2).bind fun t109 => (if t109 = true then ((impl_partOk.f a0_3).bind fun t110 => (if t110 = true then (some (a0_4 == 0)) else (some false))) else (some false))) else (some false)) = some r := H
              have A38 := Aside0.mk A380
              clear A380
              by_cases c39 : t108 = true
              · subst c39
                have H1 : ((impl_partOk.f a0_2).bind fun t109 => (if t109 = true then ((impl_partOk.f a0_3).bind fun t110 => (if t110 = true then (some (a0_4 == 0)) else (some false))) else (some false))) = some r := by rw [if_pos rfl] at H; exact H
                clear H
                have H := H1
                clear H1
                replace H := Option.bind_eq_some_iff.mp H
                obtain ⟨t109, A400, H⟩ := H
                replace H : (if t109 = true then ((impl_partOk.f a0_3).bind fun t110 => (if t110 = true then (some (a0_4 == 0)) else (some false))) else (some false)) = some r := H
                have A40 := Aside0.mk A400
                clear A400
                by_cases c41 : t109 = true
                · subst c41
                  have H1 : ((impl_partOk.f a0_3).bind fun t110 => (if t110 = true then (some (a0_4 == 0)) else (some false))) = some r := by rw [if_pos rfl] at H; exact H
                  clear H
                  have H := H1
                  clear H1
                  replace H := Option.bind_eq_some_iff.mp H
                  obtain ⟨t110, A420, H⟩ := H
                  replace H : (if t110 = true then (some (a0_4 == 0)) else (some false)) = some r := H
                  have A42 := Aside0.mk A420
                  clear A420
                  by_cases c43 : t110 = true
                  · subst c43
                    have H1 : (some (a0_4 == 0)) = some r := by rw [if_pos rfl] at H; exact H
                    clear H
                    have H := H1
                    clear H1
                    obtain rfl := Option.some.inj H
                    have hcz44_0 : wc.cell? ⟨gb101, 0, none⟩ = some (.int .i64 a0_0) := (blk_cell BK101.out 0).trans rfl
                    have hcz44_1 : wc.cell? ⟨gb101, 1, none⟩ = some (.int .i64 a0_1) := (blk_cell BK101.out 1).trans rfl
                    have hcz44_2 : wc.cell? ⟨gb101, 2, none⟩ = some (.int .i64 a0_2) := (blk_cell BK101.out 2).trans rfl
                    have hcz44_3 : wc.cell? ⟨gb101, 3, none⟩ = some (.int .i64 a0_3) := (blk_cell BK101.out 3).trans rfl
                    have hcz44_4 : wc.cell? ⟨gb101, 4, none⟩ = some (.int .i64 a0_4) := (blk_cell BK101.out 4).trans rfl
                    have hfz44_0 := blk_frozen BK101.out 0
                    have hfz44_1 := blk_frozen BK101.out 1
                    have hfz44_2 := blk_frozen BK101.out 2
                    have hfz44_3 := blk_frozen BK101.out 3
                    have hfz44_4 := blk_frozen BK101.out 4
                    go_wp2_with (first | ((with_reducible refine gate_callee (f := 118) rfl ?_); refine goesL_ (some 60) rfl rfl Try.func118 (by kernel_rfl) rfl #[.int .i64 a0_1] rfl (by (try simp only [List.map_toArray, List.map_cons, List.map_nil]); first | done | rfl | (simp only [List.length_drop, List.length_take]; rfl)) ?_; (with_reducible refine (impl_partOk.calls a0_1 true _ A38.out).mono ?_); rintro e w' ⟨rfl, ⟨nd, rfl⟩⟩; refine ⟨_, rfl, ?_⟩) | (go_at_call 118; (with_reducible refine (impl_partOk.calls a0_2 true _ A40.out).mono ?_); rintro e w' ⟨rfl, ⟨nd, rfl⟩⟩) | (go_at_call 118; (with_reducible refine (impl_partOk.calls a0_3 true _ A42.out).mono ?_); rintro e w' ⟨rfl, ⟨nd, rfl⟩⟩))
                    go_ret
                    exact ⟨by first | rfl | (simp [errW_none, errW_some] <;> rfl) | (simp [*, errW_none, errW_some] <;> rfl), by repeat (first | (with_reducible first | exact HB.out | apply below_alloc | apply pw_below_drewN | apply below_drew1 | refine below_set ?_ GE101.out) | exact HB.out)⟩
                  · replace c43 := Bool.eq_false_iff.mpr c43
                    subst c43
                    have H1 : (some false) = some r := by rw [if_neg (show ¬ (false = true) by decide)] at H; exact H
                    clear H
                    have H := H1
                    clear H1
                    obtain rfl := Option.some.inj H
                    have hcz45_0 : wc.cell? ⟨gb101, 0, none⟩ = some (.int .i64 a0_0) := (blk_cell BK101.out 0).trans rfl
                    have hcz45_1 : wc.cell? ⟨gb101, 1, none⟩ = some (.int .i64 a0_1) := (blk_cell BK101.out 1).trans rfl
                    have hcz45_2 : wc.cell? ⟨gb101, 2, none⟩ = some (.int .i64 a0_2) := (blk_cell BK101.out 2).trans rfl
                    have hcz45_3 : wc.cell? ⟨gb101, 3, none⟩ = some (.int .i64 a0_3) := (blk_cell BK101.out 3).trans rfl
                    have hcz45_4 : wc.cell? ⟨gb101, 4, none⟩ = some (.int .i64 a0_4) := (blk_cell BK101.out 4).trans rfl
                    have hfz45_0 := blk_frozen BK101.out 0
                    have hfz45_1 := blk_frozen BK101.out 1
                    have hfz45_2 := blk_frozen BK101.out 2
                    have hfz45_3 := blk_frozen BK101.out 3
                    have hfz45_4 := blk_frozen BK101.out 4
                    go_wp2_with (first | ((with_reducible refine gate_callee (f := 118) rfl ?_); refine goesL_ (some 60) rfl rfl Try.func118 (by kernel_rfl) rfl #[.int .i64 a0_1] rfl (by (try simp only [List.map_toArray, List.map_cons, List.map_nil]); first | done | rfl | (simp only [List.length_drop, List.length_take]; rfl)) ?_; (with_reducible refine (impl_partOk.calls a0_1 true _ A38.out).mono ?_); rintro e w' ⟨rfl, ⟨nd, rfl⟩⟩; refine ⟨_, rfl, ?_⟩) | (go_at_call 118; (with_reducible refine (impl_partOk.calls a0_2 true _ A40.out).mono ?_); rintro e w' ⟨rfl, ⟨nd, rfl⟩⟩) | (go_at_call 118; (with_reducible refine (impl_partOk.calls a0_3 false _ A42.out).mono ?_); rintro e w' ⟨rfl, ⟨nd, rfl⟩⟩))
                    go_ret
                    exact ⟨by first | rfl | (simp [errW_none, errW_some] <;> rfl) | (simp [*, errW_none, errW_some] <;> rfl), by repeat (first | (with_reducible first | exact HB.out | apply below_alloc | apply pw_below_drewN | apply below_drew1 | refine below_set ?_ GE101.out) | exact HB.out)⟩
                · replace c41 := Bool.eq_false_iff.mpr c41
                  subst c41
                  have H1 : (some false) = some r := by rw [if_neg (show ¬ (false = true) by decide)] at H; exact H
                  clear H
                  have H := H1
                  clear H1
                  obtain rfl := Option.some.inj H
                  have hcz46_0 : wc.cell? ⟨gb101, 0, none⟩ = some (.int .i64 a0_0) := (blk_cell BK101.out 0).trans rfl
                  have hcz46_1 : wc.cell? ⟨gb101, 1, none⟩ = some (.int .i64 a0_1) := (blk_cell BK101.out 1).trans rfl
                  have hcz46_2 : wc.cell? ⟨gb101, 2, none⟩ = some (.int .i64 a0_2) := (blk_cell BK101.out 2).trans rfl
                  have hcz46_3 : wc.cell? ⟨gb101, 3, none⟩ = some (.int .i64 a0_3) := (blk_cell BK101.out 3).trans rfl
                  have hcz46_4 : wc.cell? ⟨gb101, 4, none⟩ = some (.int .i64 a0_4) := (blk_cell BK101.out 4).trans rfl
                  have hfz46_0 := blk_frozen BK101.out 0
                  have hfz46_1 := blk_frozen BK101.out 1
                  have hfz46_2 := blk_frozen BK101.out 2
                  have hfz46_3 := blk_frozen BK101.out 3
                  have hfz46_4 := blk_frozen BK101.out 4
                  go_wp2_with (first | ((with_reducible refine gate_callee (f := 118) rfl ?_); refine goesL_ (some 60) rfl rfl Try.func118 (by kernel_rfl) rfl #[.int .i64 a0_1] rfl (by (try simp only [List.map_toArray, List.map_cons, List.map_nil]); first | done | rfl | (simp only [List.length_drop, List.length_take]; rfl)) ?_; (with_reducible refine (impl_partOk.calls a0_1 true _ A38.out).mono ?_); rintro e w' ⟨rfl, ⟨nd, rfl⟩⟩; refine ⟨_, rfl, ?_⟩) | (go_at_call 118; (with_reducible refine (impl_partOk.calls a0_2 false _ A40.out).mono ?_); rintro e w' ⟨rfl, ⟨nd, rfl⟩⟩))
                  go_ret
                  exact ⟨by first | rfl | (simp [errW_none, errW_some] <;> rfl) | (simp [*, errW_none, errW_some] <;> rfl), by repeat (first | (with_reducible first | exact HB.out | apply below_alloc | apply pw_below_drewN | apply below_drew1 | refine below_set ?_ GE101.out) | exact HB.out)⟩
              · replace c39 := Bool.eq_false_iff.mpr c39
                subst c39
                have H1 : (some false) = some r := by rw [if_neg (show ¬ (false = true) by decide)] at H; exact H
                clear H
                have H := H1
                clear H1
                obtain rfl := Option.some.inj H
                have hcz47_0 : wc.cell? ⟨gb101, 0, none⟩ = some (.int .i64 a0_0) := (blk_cell BK101.out 0).trans rfl
                have hcz47_1 : wc.cell? ⟨gb101, 1, none⟩ = some (.int .i64 a0_1) := (blk_cell BK101.out 1).trans rfl
                have hcz47_2 : wc.cell? ⟨gb101, 2, none⟩ = some (.int .i64 a0_2) := (blk_cell BK101.out 2).trans rfl
                have hcz47_3 : wc.cell? ⟨gb101, 3, none⟩ = some (.int .i64 a0_3) := (blk_cell BK101.out 3).trans rfl
                have hcz47_4 : wc.cell? ⟨gb101, 4, none⟩ = some (.int .i64 a0_4) := (blk_cell BK101.out 4).trans rfl
                have hfz47_0 := blk_frozen BK101.out 0
                have hfz47_1 := blk_frozen BK101.out 1
                have hfz47_2 := blk_frozen BK101.out 2
                have hfz47_3 := blk_frozen BK101.out 3
                have hfz47_4 := blk_frozen BK101.out 4
                go_wp2_with (first | ((with_reducible refine gate_callee (f := 118) rfl ?_); refine goesL_ (some 60) rfl rfl Try.func118 (by kernel_rfl) rfl #[.int .i64 a0_1] rfl (by (try simp only [List.map_toArray, List.map_cons, List.map_nil]); first | done | rfl | (simp only [List.length_drop, List.length_take]; rfl)) ?_; (with_reducible refine (impl_partOk.calls a0_1 false _ A38.out).mono ?_); rintro e w' ⟨rfl, ⟨nd, rfl⟩⟩; refine ⟨_, rfl, ?_⟩))
                go_ret
                exact ⟨by first | rfl | (simp [errW_none, errW_some] <;> rfl) | (simp [*, errW_none, errW_some] <;> rfl), by repeat (first | (with_reducible first | exact HB.out | apply below_alloc | apply pw_below_drewN | apply below_drew1 | refine below_set ?_ GE101.out) | exact HB.out)⟩
            · rw [if_neg c37] at H
              have c37b0 : (a0_0 == 8) = false := beq_eq_false_iff_ne.mpr c37
              have c37b1 : (a0_0 != 8) = true := bne_iff_ne.mpr c37
              obtain rfl := Option.some.inj H
              go_wp2
              go_ret
              exact ⟨by first | rfl | (simp [errW_none, errW_some] <;> rfl) | (simp [*, errW_none, errW_some] <;> rfl), by repeat (first | (with_reducible first | exact HB.out | apply below_alloc | apply pw_below_drewN | apply below_drew1 | refine below_set ?_ GE101.out) | exact HB.out)⟩

end Go.Proofs.Ytgpkkkmapgnhkaa.X

namespace Go.Proofs.Ytgpkkkmapgnhkaa.X
open Go.RowKit Go.Proofs.YtgpkkkmapgnhkaaW.PrintWords Go.Proofs.YtgpkkkmapgnhkaaW.PrintLast Go.Proofs.YtgpkkkmapgnhkaaW.PrintMore
attribute [local go_sem] max2_int min2_int max_two min_two max_three min_three max_four min_four   -- for this text's walks alone
set_option linter.unusedVariables false
set_option linter.unusedSimpArgs false

/-! ### impl_opsOk: function 72 -/
def impl_opsOk.l0 : Nat → List (S146) → Int → Int → Option (Bool)
  | 0, _, _, _ => none
  | k + 1, x8, x9, x10 => if x10 < x9 then (if 0 ≤ x10 then (if x10 < (x8.length : Int) then ((impl_OpOk.f k ((rd_T146 x8 x10).f0) ((rd_T146 x8 x10).f1) ((rd_T146 x8 x10).f2) ((rd_T146 x8 x10).f3) ((rd_T146 x8 x10).f4)).bind fun t103 => (if t103 = true then (impl_opsOk.l0 k x8 x9 (wrap64 (x10 + 1))) else (some false))) else (none)) else (none)) else (some true)
def impl_opsOk.f (k : Nat) (l0 : List (S146)) : Option (Bool) := if (l0.length : Int) > 5 then (some false) else (impl_opsOk.l0 k l0 (l0.length : Int) 0)
theorem impl_opsOk.mono_l : ∀ k, (∀ y0 y1 y2, LeO (impl_opsOk.l0 k y0 y1 y2) (impl_opsOk.l0 (k + 1) y0 y1 y2))
  | 0 => fun _ _ _ r h => by simp [impl_opsOk.l0] at h
  | k + 1 => by
    have ih0 := impl_opsOk.mono_l k
    · intro y0 y1 y2
      unfold impl_opsOk.l0
      repeat' first
      | (with_reducible exact ih0 _ _ _)
      | (with_reducible exact impl_OpOk.mono _ _ _ _ _ _)
      | (with_reducible exact LeO.refl _)
      | (with_reducible exact LeO.none _)
      | (with_reducible refine LeO.ite ?_ ?_)
      | (with_reducible refine LeO.bind ?_ (fun _ => ?_))
      | exact ih0 _ _ _
      | exact impl_OpOk.mono _ _ _ _ _ _
      | exact LeO.none _
      | refine LeO.ite ?_ ?_
      | refine LeO.bind ?_ (fun _ => ?_)
theorem impl_opsOk.mono : ∀ a0 k, LeO (impl_opsOk.f k a0) (impl_opsOk.f (k + 1) a0) := by
  intro a0 k
  have ih0 := impl_opsOk.mono_l k
  unfold impl_opsOk.f
  repeat' first
      | (with_reducible exact ih0 _ _ _)
      | (with_reducible exact impl_OpOk.mono _ _ _ _ _ _)
      | (with_reducible exact LeO.refl _)
      | (with_reducible exact LeO.none _)
      | (with_reducible refine LeO.ite ?_ ?_)
      | (with_reducible refine LeO.bind ?_ (fun _ => ?_))
      | exact ih0 _ _ _
      | exact impl_OpOk.mono _ _ _ _ _ _
      | exact LeO.none _
      | refine LeO.ite ?_ ?_
      | refine LeO.bind ?_ (fun _ => ?_)
set_option maxHeartbeats 8000000 in
set_option maxRecDepth 100000 in
theorem impl_opsOk.calls (k : Nat) (A0 : Option Addr) (c0 : Nat) (l0 : List (S146)) (r : Bool) (w : World) (hr0 : Kd.C k146 w A0 l0.length l0) (hc0 : l0.length ≤ c0) (h : impl_opsOk.f k l0 = some r) :
    Calls Try.prog 72 #[.slice A0 l0.length c0] w fun e w' => e = .returned (.bool r) ∧ Below w.heap.size w w' := by
  have hu146 := Try.underlying146
  have HR0 := Aside0.mk hr0
  have HC0 := Aside0.mk hc0
  clear hr0 hc0
  have HB := Aside0.mk (Below.refl w.heap.size w)
  have H : (if (l0.length : Int) > 5 then (some false) else (impl_opsOk.l0 k l0 (l0.length : Int) 0)) = some r := h
  clear h
  by_cases c2 : (l0.length : Int) > 5
  · rw [if_pos c2] at H
    have c2b0 : decide (5 < (l0.length : Int)) = true := decide_eq_true c2
    have c2b1 : decide (5 < l0.length) = true := decide_eq_true (by omega)
    clear c2
    obtain rfl := Option.some.inj H
    go_enter Try.func72, Try.ntmps72
    go_wp2
    go_ret
    exact ⟨by first | rfl | (simp [errW_none, errW_some] <;> rfl) | (simp [*, errW_none, errW_some] <;> rfl), by repeat (first | (with_reducible first | exact HB.out | apply below_alloc | apply pw_below_drewN | apply below_drew1) | exact HB.out)⟩
  · rw [if_neg c2] at H
    have c2b0 : decide (5 < (l0.length : Int)) = false := decide_eq_false c2
    have c2b1 : decide (5 < l0.length) = false := decide_eq_false (by omega)
    clear c2
    have H' := Aside0.mk H
    clear H
    go_enter Try.func72, Try.ntmps72
    go_wp2
    (try simp only [Act.put, List.setIfInBounds_toArray, List.set_cons_zero, List.set_cons_succ])
    go_loopg [10] k (fun kq v10 w' => ∃ (x10_1 : Int), v10 = .int .i64 x10_1 ∧ Aside0 (impl_opsOk.l0 kq l0 (l0.length : Int) x10_1 = some r) ∧ Aside0 (kq ≤ k) ∧ Aside0 (Below w.heap.size w w'))
    case atStart => exact ⟨(0), (by first | rfl | (simp; done) | (simp [*]; done)), H', ⟨Nat.le_refl _⟩, ⟨by repeat (first | (with_reducible first | exact HB.out | apply below_alloc | apply pw_below_drewN | apply below_drew1) | exact HB.out)⟩⟩
    case round =>
      clear H'
      try clear c2
      try clear c2b0
      try clear c2b1
      try clear p2
      obtain ⟨x10_1, rfl, HA, HK1, HB⟩ := hrel
      cases gk with
      | zero => exact absurd HA.out (by simp [impl_opsOk.l0])
      | succ k1 =>
        have H := HA.out
        clear HA
        simp only [impl_opsOk.l0] at H
        by_cases c3 : x10_1 < (l0.length : Int)
        · rw [if_pos c3] at H
          have c3b0 : decide (x10_1 < (l0.length : Int)) = true := decide_eq_true c3
          clear c3
          by_cases c4 : 0 ≤ x10_1
          · rw [if_pos c4] at H
            have c4b0 : decide (0 ≤ x10_1) = true := decide_eq_true c4
            clear c4
            by_cases c5 : x10_1 < (l0.length : Int)
            · rw [if_pos c5] at H
              have c5b0 : decide (x10_1 < (l0.length : Int)) = true := decide_eq_true c5
              clear c5
              replace H := Option.bind_eq_some_iff.mp H
              obtain ⟨t103, A60, H⟩ := H
              replace H : (if t103 = true then (impl_opsOk.l0 k1 l0 (l0.length : Int) (wrap64 (x10_1 + 1))) else (some false)) = some r := H
              have A6 := Aside0.mk A60
              clear A60
              by_cases c7 : t103 = true
              · subst c7
                have H1 : (impl_opsOk.l0 k1 l0 (l0.length : Int) (wrap64 (x10_1 + 1))) = some r := by rw [if_pos rfl] at H; exact H
                clear H
                have H := H1
                clear H1
                have H' := Aside0.mk H
                clear H
                have p101 : 0 ≤ (x10_1 : Int) := of_decide_eq_true (by first | (with_reducible assumption) | assumption)
                have q101 : x10_1 < (l0.length : Int) := of_decide_eq_true (by first | (with_reducible assumption) | assumption)
                obtain ⟨ad101, e101, hx101_0, hx101_1, hx101_2, hx101_3, hx101_4⟩ := at_T146 HR0.out x10_1 p101 q101
                cases e101
                replace hx101_0 := (HB.out.cell (World.block_lt_of_cell? w _ hx101_0)).trans hx101_0
                replace hx101_1 := (HB.out.cell (World.block_lt_of_cell? w _ hx101_1)).trans hx101_1
                replace hx101_2 := (HB.out.cell (World.block_lt_of_cell? w _ hx101_2)).trans hx101_2
                replace hx101_3 := (HB.out.cell (World.block_lt_of_cell? w _ hx101_3)).trans hx101_3
                replace hx101_4 := (HB.out.cell (World.block_lt_of_cell? w _ hx101_4)).trans hx101_4
                replace p101 := eq_true p101
                replace q101 := eq_true q101
                go_wp2_with (first | ((with_reducible refine gate_dst (N := 4) rfl ?_); refine box_event ?hg (N := 4) ?hd (cs := #[.int .i64 0, .int .i64 0, .int .i64 0, .int .i64 0, .int .i64 0]) (t := 146) ?hr ?_; (case hd => rfl); (case hg => rfl); (case hr => first | (go_simp; done) | (go_simp; rfl)); intro gb102 hg w8 hbox hb; have n0_ := Aside0.mk (below_step (by repeat (first | (with_reducible first | exact HB.out | apply below_alloc | apply pw_below_drewN | apply below_drew1) | exact HB.out)) hb); have n1_ := Aside0.mk (hbox); have n2_ := Aside0.mk ((by rw [hg]; exact (below_size (by repeat (first | (with_reducible first | exact HB.out | apply below_alloc | apply pw_below_drewN | apply below_drew1) | exact HB.out))) : w.heap.size ≤ gb102)); have n3_ := Aside0.mk ((by rw [hg]; exact (below_size (by repeat (first | (with_reducible first | exact HB.out | apply below_alloc | apply pw_below_drewN | apply below_drew1) | exact HB.out))) : w.heap.size ≤ gb102)); clear HB; have HB := n0_; have BK102 := n1_; have GW102 := n2_; have GE102 := n3_; clear n0_ n1_ n2_ n3_; clear hb hbox hg; have hcz9_0 : w8.cell? ⟨gb102, 0, none⟩ = some (.int .i64 0) := (blk_cell BK102.out 0).trans rfl; have hcz9_1 : w8.cell? ⟨gb102, 1, none⟩ = some (.int .i64 0) := (blk_cell BK102.out 1).trans rfl; have hcz9_2 : w8.cell? ⟨gb102, 2, none⟩ = some (.int .i64 0) := (blk_cell BK102.out 2).trans rfl; have hcz9_3 : w8.cell? ⟨gb102, 3, none⟩ = some (.int .i64 0) := (blk_cell BK102.out 3).trans rfl; have hcz9_4 : w8.cell? ⟨gb102, 4, none⟩ = some (.int .i64 0) := (blk_cell BK102.out 4).trans rfl; have hfz9_0 := blk_frozen BK102.out 0; have hfz9_1 := blk_frozen BK102.out 1; have hfz9_2 := blk_frozen BK102.out 2; have hfz9_3 := blk_frozen BK102.out 3; have hfz9_4 := blk_frozen BK102.out 4) | ((with_reducible refine gate_callee (f := 121) rfl ?_); refine goesL_ (some 15) rfl rfl Try.func121 (by kernel_rfl) rfl #[.agg #[.int .i64 ((rd_T146 l0 x10_1).f0), .int .i64 ((rd_T146 l0 x10_1).f1), .int .i64 ((rd_T146 l0 x10_1).f2), .int .i64 ((rd_T146 l0 x10_1).f3), .int .i64 ((rd_T146 l0 x10_1).f4)]] rfl (by (try simp only [List.map_toArray, List.map_cons, List.map_nil]); first | done | rfl | (simp only [List.length_drop, List.length_take]; rfl)) ?_; (with_reducible refine (impl_OpOk.calls k1 ((rd_T146 l0 x10_1).f0) ((rd_T146 l0 x10_1).f1) ((rd_T146 l0 x10_1).f2) ((rd_T146 l0 x10_1).f3) ((rd_T146 l0 x10_1).f4) true _ A6.out).mono ?_); rintro e w10 ⟨rfl, hb⟩; refine ⟨_, rfl, ?_⟩; have n0_ := Aside0.mk (blk_below (g := gb102) (o := .cells #[.int .i64 ((rd_T146 l0 x10_1).f0), .int .i64 ((rd_T146 l0 x10_1).f1), .int .i64 ((rd_T146 l0 x10_1).f2), .int .i64 ((rd_T146 l0 x10_1).f3), .int .i64 ((rd_T146 l0 x10_1).f4)] 146 (0, 0)) (by (with_reducible repeat (first | refine blk_drewN ?_ _ | refine blk_drew ?_ | refine blk_alloc ?_ _)); refine blk_put (cs := #[.int .i64 ((rd_T146 l0 x10_1).f0), .int .i64 ((rd_T146 l0 x10_1).f1), .int .i64 ((rd_T146 l0 x10_1).f2), .int .i64 ((rd_T146 l0 x10_1).f3), .int .i64 0]) ?_ 4 _ rfl; (with_reducible repeat (first | refine blk_drewN ?_ _ | refine blk_drew ?_ | refine blk_alloc ?_ _)); refine blk_put (cs := #[.int .i64 ((rd_T146 l0 x10_1).f0), .int .i64 ((rd_T146 l0 x10_1).f1), .int .i64 ((rd_T146 l0 x10_1).f2), .int .i64 0, .int .i64 0]) ?_ 3 _ rfl; (with_reducible repeat (first | refine blk_drewN ?_ _ | refine blk_drew ?_ | refine blk_alloc ?_ _)); refine blk_put (cs := #[.int .i64 ((rd_T146 l0 x10_1).f0), .int .i64 ((rd_T146 l0 x10_1).f1), .int .i64 0, .int .i64 0, .int .i64 0]) ?_ 2 _ rfl; (with_reducible repeat (first | refine blk_drewN ?_ _ | refine blk_drew ?_ | refine blk_alloc ?_ _)); refine blk_put (cs := #[.int .i64 ((rd_T146 l0 x10_1).f0), .int .i64 0, .int .i64 0, .int .i64 0, .int .i64 0]) ?_ 1 _ rfl; (with_reducible repeat (first | refine blk_drewN ?_ _ | refine blk_drew ?_ | refine blk_alloc ?_ _)); refine blk_put (cs := #[.int .i64 0, .int .i64 0, .int .i64 0, .int .i64 0, .int .i64 0]) ?_ 0 _ rfl; (with_reducible repeat (first | refine blk_drewN ?_ _ | refine blk_drew ?_ | refine blk_alloc ?_ _)); exact BK102.out) hb); have n1_ := Aside0.mk (below_step (by repeat (first | (with_reducible first | exact HB.out | apply below_alloc | apply pw_below_drewN | apply below_drew1 | refine below_set ?_ GE102.out) | exact HB.out)) hb); clear BK102; clear HB; have BK102 := n0_; have HB := n1_; clear n0_ n1_; (try clear hb); (try clear hb2); (try clear hk); (try clear hi)))
                go_roundg k1
                case measure => have := HK1.out; omega
                case rel => exact ⟨(wrap64 (x10_1 + 1)), (by first | rfl | (simp; done) | (simp [*]; done)), H', ⟨by have := HK1.out; omega⟩, ⟨by repeat (first | (with_reducible first | exact HB.out | apply below_alloc | apply pw_below_drewN | apply below_drew1 | refine below_set ?_ GE102.out) | exact HB.out)⟩⟩
              · replace c7 := Bool.eq_false_iff.mpr c7
                subst c7
                have H1 : (some false) = some r := by rw [if_neg (show ¬ (false = true) by decide)] at H; exact H
                clear H
                have H := H1
                clear H1
                obtain rfl := Option.some.inj H
                have p101 : 0 ≤ (x10_1 : Int) := of_decide_eq_true (by first | (with_reducible assumption) | assumption)
                have q101 : x10_1 < (l0.length : Int) := of_decide_eq_true (by first | (with_reducible assumption) | assumption)
                obtain ⟨ad101, e101, hx101_0, hx101_1, hx101_2, hx101_3, hx101_4⟩ := at_T146 HR0.out x10_1 p101 q101
                cases e101
                replace hx101_0 := (HB.out.cell (World.block_lt_of_cell? w _ hx101_0)).trans hx101_0
                replace hx101_1 := (HB.out.cell (World.block_lt_of_cell? w _ hx101_1)).trans hx101_1
                replace hx101_2 := (HB.out.cell (World.block_lt_of_cell? w _ hx101_2)).trans hx101_2
                replace hx101_3 := (HB.out.cell (World.block_lt_of_cell? w _ hx101_3)).trans hx101_3
                replace hx101_4 := (HB.out.cell (World.block_lt_of_cell? w _ hx101_4)).trans hx101_4
                replace p101 := eq_true p101
                replace q101 := eq_true q101
                go_wp2_with (first | ((with_reducible refine gate_dst (N := 4) rfl ?_); refine box_event ?hg (N := 4) ?hd (cs := #[.int .i64 0, .int .i64 0, .int .i64 0, .int .i64 0, .int .i64 0]) (t := 146) ?hr ?_; (case hd => rfl); (case hg => rfl); (case hr => first | (go_simp; done) | (go_simp; rfl)); intro gb102 hg w11 hbox hb; have n0_ := Aside0.mk (below_step (by repeat (first | (with_reducible first | exact HB.out | apply below_alloc | apply pw_below_drewN | apply below_drew1) | exact HB.out)) hb); have n1_ := Aside0.mk (hbox); have n2_ := Aside0.mk ((by rw [hg]; exact (below_size (by repeat (first | (with_reducible first | exact HB.out | apply below_alloc | apply pw_below_drewN | apply below_drew1) | exact HB.out))) : w.heap.size ≤ gb102)); have n3_ := Aside0.mk ((by rw [hg]; exact (below_size (by repeat (first | (with_reducible first | exact HB.out | apply below_alloc | apply pw_below_drewN | apply below_drew1) | exact HB.out))) : w.heap.size ≤ gb102)); clear HB; have HB := n0_; have BK102 := n1_; have GW102 := n2_; have GE102 := n3_; clear n0_ n1_ n2_ n3_; clear hb hbox hg; have hcz12_0 : w11.cell? ⟨gb102, 0, none⟩ = some (.int .i64 0) := (blk_cell BK102.out 0).trans rfl; have hcz12_1 : w11.cell? ⟨gb102, 1, none⟩ = some (.int .i64 0) := (blk_cell BK102.out 1).trans rfl; have hcz12_2 : w11.cell? ⟨gb102, 2, none⟩ = some (.int .i64 0) := (blk_cell BK102.out 2).trans rfl; have hcz12_3 : w11.cell? ⟨gb102, 3, none⟩ = some (.int .i64 0) := (blk_cell BK102.out 3).trans rfl; have hcz12_4 : w11.cell? ⟨gb102, 4, none⟩ = some (.int .i64 0) := (blk_cell BK102.out 4).trans rfl; have hfz12_0 := blk_frozen BK102.out 0; have hfz12_1 := blk_frozen BK102.out 1; have hfz12_2 := blk_frozen BK102.out 2; have hfz12_3 := blk_frozen BK102.out 3; have hfz12_4 := blk_frozen BK102.out 4) | ((with_reducible refine gate_callee (f := 121) rfl ?_); refine goesL_ (some 15) rfl rfl Try.func121 (by kernel_rfl) rfl #[.agg #[.int .i64 ((rd_T146 l0 x10_1).f0), .int .i64 ((rd_T146 l0 x10_1).f1), .int .i64 ((rd_T146 l0 x10_1).f2), .int .i64 ((rd_T146 l0 x10_1).f3), .int .i64 ((rd_T146 l0 x10_1).f4)]] rfl (by (try simp only [List.map_toArray, List.map_cons, List.map_nil]); first | done | rfl | (simp only [List.length_drop, List.length_take]; rfl)) ?_; (with_reducible refine (impl_OpOk.calls k1 ((rd_T146 l0 x10_1).f0) ((rd_T146 l0 x10_1).f1) ((rd_T146 l0 x10_1).f2) ((rd_T146 l0 x10_1).f3) ((rd_T146 l0 x10_1).f4) false _ A6.out).mono ?_); rintro e w13 ⟨rfl, hb⟩; refine ⟨_, rfl, ?_⟩; have n0_ := Aside0.mk (blk_below (g := gb102) (o := .cells #[.int .i64 ((rd_T146 l0 x10_1).f0), .int .i64 ((rd_T146 l0 x10_1).f1), .int .i64 ((rd_T146 l0 x10_1).f2), .int .i64 ((rd_T146 l0 x10_1).f3), .int .i64 ((rd_T146 l0 x10_1).f4)] 146 (0, 0)) (by (with_reducible repeat (first | refine blk_drewN ?_ _ | refine blk_drew ?_ | refine blk_alloc ?_ _)); refine blk_put (cs := #[.int .i64 ((rd_T146 l0 x10_1).f0), .int .i64 ((rd_T146 l0 x10_1).f1), .int .i64 ((rd_T146 l0 x10_1).f2), .int .i64 ((rd_T146 l0 x10_1).f3), .int .i64 0]) ?_ 4 _ rfl; (with_reducible repeat (first | refine blk_drewN ?_ _ | refine blk_drew ?_ | refine blk_alloc ?_ _)); refine blk_put (cs := #[.int .i64 ((rd_T146 l0 x10_1).f0), .int .i64 ((rd_T146 l0 x10_1).f1), .int .i64 ((rd_T146 l0 x10_1).f2), .int .i64 0, .int .i64 0]) ?_ 3 _ rfl; (with_reducible repeat (first | refine blk_drewN ?_ _ | refine blk_drew ?_ | refine blk_alloc ?_ _)); refine blk_put (cs := #[.int .i64 ((rd_T146 l0 x10_1).f0), .int .i64 ((rd_T146 l0 x10_1).f1), .int .i64 0, .int .i64 0, .int .i64 0]) ?_ 2 _ rfl; (with_reducible repeat (first | refine blk_drewN ?_ _ | refine blk_drew ?_ | refine blk_alloc ?_ _)); refine blk_put (cs := #[.int .i64 ((rd_T146 l0 x10_1).f0), .int .i64 0, .int .i64 0, .int .i64 0, .int .i64 0]) ?_ 1 _ rfl; (with_reducible repeat (first | refine blk_drewN ?_ _ | refine blk_drew ?_ | refine blk_alloc ?_ _)); refine blk_put (cs := #[.int .i64 0, .int .i64 0, .int .i64 0, .int .i64 0, .int .i64 0]) ?_ 0 _ rfl; (with_reducible repeat (first | refine blk_drewN ?_ _ | refine blk_drew ?_ | refine blk_alloc ?_ _)); exact BK102.out) hb); have n1_ := Aside0.mk (below_step (by repeat (first | (with_reducible first | exact HB.out | apply below_alloc | apply pw_below_drewN | apply below_drew1 | refine below_set ?_ GE102.out) | exact HB.out)) hb); clear BK102; clear HB; have BK102 := n0_; have HB := n1_; clear n0_ n1_; (try clear hb); (try clear hb2); (try clear hk); (try clear hi)))
                go_ret
                exact ⟨by first | rfl | (simp [errW_none, errW_some] <;> rfl) | (simp [*, errW_none, errW_some] <;> rfl), by repeat (first | (with_reducible first | exact HB.out | apply below_alloc | apply pw_below_drewN | apply below_drew1 | refine below_set ?_ GE102.out) | exact HB.out)⟩
            · rw [if_neg c5] at H
              exact absurd H (by simp)
          · rw [if_neg c4] at H
            exact absurd H (by simp)
        · rw [if_neg c3] at H
          have c3b0 : decide (x10_1 < (l0.length : Int)) = false := decide_eq_false c3
          clear c3
          obtain rfl := Option.some.inj H
          go_wp2
          go_ret
          exact ⟨by first | rfl | (simp [errW_none, errW_some] <;> rfl) | (simp [*, errW_none, errW_some] <;> rfl), by repeat (first | (with_reducible first | exact HB.out | apply below_alloc | apply pw_below_drewN | apply below_drew1) | exact HB.out)⟩

end Go.Proofs.Ytgpkkkmapgnhkaa.X
