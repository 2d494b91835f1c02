/- Lemmas and contracts for the law FnShaSum, part 3: of the program's functions, and over data alone. Conditions: the listed package-level variables begin as the program's text lays them (tied by the card). -/
import Derived.Test.YtfinaphomgdmlaaDoorMFnShaSum2
namespace Go.Proofs.YtfinaphomgdmlaaDoor.X
open Go.RowKit Go.Proofs.YtfinaphomgdmlaaDoorW.PrintWords Go.Proofs.YtfinaphomgdmlaaDoorW.PrintLast Go.Proofs.YtfinaphomgdmlaaDoorW.PrintMore
attribute [local go_sem] max2_int min2_int max_two min_two max_three min_three max_four min_four
set_option linter.unusedVariables false
set_option linter.unusedSimpArgs false

section
open Go.Proofs.YtfinaphomgdmlaaDoorW.PrintWords.Aside0 renaming mk → yaa
open Go.Proofs.YtfinaphomgdmlaaDoor.X.IsS51 renaming alloc → yab, drewN → yac, set_1 → yad, drew → yag
open Go.Proofs.YtfinaphomgdmlaaDoorW.PrintWords.KeepBut renaming set_ → yae
open Go.Proofs.YtfinaphomgdmlaaDoorW.PrintWords renaming pw_below_drewN → yaf

def spec_l20Bytes.l0 : Nat → List Int → Int → List Int → Int → Option (List Int × Int)
 | 0, _, _, _, _ => none
 | k + 1, x5, x6, x1000, x1001 => if x6 > 0 then ((spec_l20Rd_pick.f k x1000 x1001 256).bind fun bt106 => ((spec_l20Rd_pick.f k x1000 bt106.2 4).bind fun bt108 => ((some (([bt106.1, bt108.1, 255] : List Int) : List Int)).bind fun y110 => ((spec_l20Rd_pick.f k x1000 bt108.2 3).bind fun bt113 => (if 0 ≤ bt113.1 then (if bt113.1 < (y110.length : Int) then (if x5.length < 140737488355328 then (spec_l20Bytes.l0 k (x5 ++ [(rd y110 bt113.1) % 256]) (wrap64 (x6 - 1)) x1000 bt113.2) else (none)) else (none)) else (none)))))) else (some (x5, x1001))
def spec_l20Bytes.f (k : Nat) (s0_0 : List Int) (s0_1 : Int) (a1 : Int) : Option (List Int × Int) := (spec_l20Rd_pick.f k s0_0 s0_1 (wrap64 (a1 + 1))).bind fun bt104 => (spec_l20Bytes.l0 k (([] : List Int)) bt104.1 s0_0 bt104.2)
set_option maxHeartbeats 8000000 in
set_option maxRecDepth 100000 in
theorem spec_l20Bytes.calls (k : Nat) (g : Nat) (s0_0 : List Int) (s0_1 : Int) (a1 : Int) (r1 : List Int) (r2 : Int) (w0 w : World) (hI : IsS51 w0 w g s0_0 s0_1) (hB : Below w0.heap.size w0 w) (h : spec_l20Bytes.f k s0_0 s0_1 a1 = some (r1, r2)) :
  Calls Tryd.prog 23 #[.pointer (some ⟨g, 0, none⟩), .int .i64 a1] w fun e w' => ∃ v0_ : Value, e = .returned (v0_) ∧ Kd.R (Kd.int .u8) 5 w' w.heap.size (fun _ => True) v0_ r1 ∧ IsS51 w0 w' g s0_0 r2 ∧ Below w0.heap.size w0 w' ∧ KeepBut w w' g none := by
 have HI0 := yaa hI; have HK := yaa (KeepBut.refl w g none); have HL := yaa hB.size; clear hI; have HW0 := yaa hB.size; have HB := yaa hB; clear hB; have H : ((spec_l20Rd_pick.f k s0_0 s0_1 (wrap64 (a1 + 1))).bind fun a7 => (spec_l20Bytes.l0 k (([] : List Int)) a7.1 s0_0 a7.2)) = some (r1, r2) := h; clear h; obtain ⟨y101, hy101⟩ : ∃ y_ : List Int, y_ = (([] : List Int)) := ⟨_, rfl⟩
 replace H : ((spec_l20Rd_pick.f k s0_0 s0_1 (wrap64 (a1 + 1))).bind fun a7 => (spec_l20Bytes.l0 k y101 a7.1 s0_0 a7.2)) = some (r1, r2) := by first | (rw [hy101]; with_reducible exact H) | (have H2_ := (Option.bind_some _ _).symm.trans H; rw [hy101]; with_reducible exact H2_) | (have H2_ := (Option.bind_some _ _).symm.trans H; with_reducible exact H2_) | with_reducible exact H | (rw [hy101]; exact H) | exact H
 have Ny101 := yaa hy101; clear hy101; obtain ⟨⟨b8, b9⟩, A3, H⟩ := bindA H; (try dsimp only at H); have H' := yaa H; clear H
 go_enter Tryd.func23, Tryd.ntmps23
 go_wp2_with (first | ((with_reducible refine gd_ 7 rfl ?_); refine Kd.R_lit (Kd.int .u8) _ 5 ?hg (N := 7) ?hd (xs := ([] : List Int)) (inner := []) (ok := fun _ => True) (okp := fun _ => True) ?hr ?hp (fun _ hk => hk) trivial (Below.refl _ _) (Nat.le_refl _) (by simp) ?_; (case hd => rfl); (case hg => rfl); (case hr => first | (go_simp; done) | (go_simp; rfl)); (case hp => exact (Reps.none _ _)); intro c5 w4 ho5 hb hg_ hnew_; clear hg_ hnew_; (first | rw [← Ny101.out] at ho5 | (simp only [Int.reduceToNat] at ho5; rw [← Ny101.out] at ho5)); have a9 := yaa (Kd.R_lower ho5 (keep_size (w := w) (g := g) (row := none) (by repeat (with_reducible first | exact HK.out | apply yae | apply keep_drewN | apply keep_drew | apply keep_alloc)))); replace HK := yaa (KeepBut.trans (by repeat (with_reducible first | exact HK.out | apply yae | apply keep_drewN | apply keep_drew | apply keep_alloc)) (KeepBut.of_below hb g none) (.inl rfl)); replace HB := yaa (below_step (by repeat (with_reducible first | exact HB.out | apply below_alloc | apply yaf | apply below_drew1 | refine below_set ?_ (IsS51.ge HI0.out))) hb); replace HI0 := yaa (IsS51.below (by repeat (with_reducible first | exact HI0.out | apply yab | apply yac | apply yag | apply yad)) hb); clear hb ho5) | ((with_reducible refine gc_ 25 rfl ?_); refine gl_ (some 11) rfl Tryd.func25 #[.pointer (some ⟨g, 0, none⟩), .int .i64 (wrap64 (a1 + 1))] ?_; (with_reducible refine (spec_l20Rd_pick.calls k g s0_0 s0_1 (wrap64 (a1 + 1)) b8 b9 w0 _ ?side1 ?side2 A3.out).mono ?_); (case side1 => repeat (with_reducible first | exact HI0.out | apply yab | apply yac | apply yag | apply yad)); (case side2 => repeat (with_reducible first | exact HB.out | apply below_alloc | apply yaf | apply below_drew1 | refine below_set ?_ (IsS51.ge HI0.out))); rintro e w6 ⟨rfl, hi, hb, hk⟩; refine ⟨_, rfl, ?_⟩; replace a9 := yaa (Kd.R_mono (Kd.R_keep (IsS51.apart (show IsS51 w0 _ g s0_0 s0_1 from by repeat (with_reducible first | exact HI0.out | apply yab | apply yac | apply yag | apply yad)) (upR a9.out) (by decide)) hk (fun _ h => h.2)) (fun _ h => h.1)); replace HK := yaa (KeepBut.trans (by repeat (with_reducible first | exact HK.out | apply yae | apply keep_drewN | apply keep_drew | apply keep_alloc)) hk (.inl rfl)); replace HB := yaa (hb); replace HI0 := yaa (hi); (try clear hb hk hi)))
 (try simp only [Act.put, List.setIfInBounds_toArray, List.set_cons_zero, List.set_cons_succ])
 go_loopg [5, 6] k (fun kq v5 v6 w' => ∃ (b0 : List Int) (a8 : Int) (a4 : Int), v6 = .int .i64 a8 ∧ Aside0 (spec_l20Bytes.l0 kq b0 a8 s0_0 a4 = some (r1, r2)) ∧ Aside0 (kq ≤ k) ∧ Aside0 (Kd.R (Kd.int .u8) 5 w' w.heap.size (fun _ => True) v5 b0) ∧ Aside0 (IsS51 w0 w' g s0_0 a4) ∧ Aside0 (KeepBut w w' g none) ∧ Aside0 (Below w0.heap.size w0 w'))
 case atStart => exact ⟨(y101), (b8), (b9), (by first | rfl | (simp; done) | (simp [*]; done)), H', ⟨Nat.le_refl _⟩, ⟨by first | exact a9.out | exact upR a9.out⟩, ⟨by repeat (with_reducible first | exact HI0.out | apply yab | apply yac | apply yag | apply yad)⟩, ⟨by repeat (with_reducible first | exact HK.out | apply yae | apply keep_drewN | apply keep_drew | apply keep_alloc)⟩, ⟨by repeat (with_reducible first | exact HB.out | apply below_alloc | apply yaf | apply below_drew1 | refine below_set ?_ (IsS51.ge HI0.out))⟩⟩
 case round =>
  clear H'; (try clear c2); (try clear p2); (try clear p6); obtain ⟨b0, a8, a4, rfl, HA, HK1, a3, HI0, HK, HB⟩ := hrel
  cases gk with
  | zero => exact absurd HA.out (by simp [spec_l20Bytes.l0])
  | succ k1 =>
   have H := HA.out; clear HA
   simp only [spec_l20Bytes.l0] at H
   by_cases c7 : a8 > 0
   ·
    rw [if_pos c7] at H
    have c1 : decide (0 < a8) = true := decide_eq_true c7; clear c7; obtain ⟨⟨b1, b6⟩, A8, H⟩ := bindA H; (try dsimp only at H); obtain ⟨⟨b2, b4⟩, A9, H⟩ := bindA H; (try dsimp only at H); obtain ⟨y110, hy110, H⟩ := bindY H; (try dsimp only at H); have Ny110 := yaa hy110; clear hy110; obtain ⟨⟨a6, b7⟩, A10, H⟩ := bindA H; (try dsimp only at H)
    by_cases c11 : 0 ≤ a6
    ·
     rw [if_pos c11] at H
     replace c11 := decide_eq_true c11
     by_cases c12 : a6 < (y110.length : Int)
     ·
      rw [if_pos c12] at H
      replace c12 := decide_eq_true c12
      by_cases c13 : b0.length < 140737488355328
      ·
       rw [if_pos c13] at H
       have LMc13 := yaa c13; clear c13; obtain ⟨y116, hy116⟩ : ∃ y_ : List Int, y_ = (b0 ++ [(rd y110 a6) % 256]) := ⟨_, rfl⟩
       replace H : (spec_l20Bytes.l0 k1 y116 (wrap64 (a8 - 1)) s0_0 b7) = some (r1, r2) := by first | (rw [hy116]; with_reducible exact H) | (have H2_ := (Option.bind_some _ _).symm.trans H; rw [hy116]; with_reducible exact H2_) | (have H2_ := (Option.bind_some _ _).symm.trans H; with_reducible exact H2_) | with_reducible exact H | (rw [hy116]; exact H) | exact H
       have Ny116 := yaa hy116; clear hy116; have H' := yaa H; clear H
       go_wp2_with (first | ((with_reducible refine gc_ 25 rfl ?_); refine gl_ (some 18) rfl Tryd.func25 #[.pointer (some ⟨g, 0, none⟩), .int .i64 256] ?_; (with_reducible refine (spec_l20Rd_pick.calls k1 g s0_0 a4 256 b1 b6 w0 _ ?side1 ?side2 A8.out).mono ?_); (case side1 => repeat (with_reducible first | exact HI0.out | apply yab | apply yac | apply yag | apply yad)); (case side2 => repeat (with_reducible first | exact HB.out | apply below_alloc | apply yaf | apply below_drew1 | refine below_set ?_ (IsS51.ge HI0.out))); rintro e w14 ⟨rfl, hi, hb, hk⟩; refine ⟨_, rfl, ?_⟩; replace a3 := yaa (Kd.R_mono (Kd.R_keep (IsS51.apart (show IsS51 w0 _ g s0_0 a4 from by repeat (with_reducible first | exact HI0.out | apply yab | apply yac | apply yag | apply yad)) (upR a3.out) (by decide)) hk (fun _ h => h.2)) (fun _ h => h.1)); replace HK := yaa (KeepBut.trans (by repeat (with_reducible first | exact HK.out | apply yae | apply keep_drewN | apply keep_drew | apply keep_alloc)) hk (.inl rfl)); replace HB := yaa (hb); replace HI0 := yaa (hi); (try clear hb hk hi)) | ((with_reducible refine gc_ 25 rfl ?_); refine gl_ (some 20) rfl Tryd.func25 #[.pointer (some ⟨g, 0, none⟩), .int .i64 4] ?_; (with_reducible refine (spec_l20Rd_pick.calls k1 g s0_0 b6 4 b2 b4 w0 _ ?side1 ?side2 A9.out).mono ?_); (case side1 => repeat (with_reducible first | exact HI0.out | apply yab | apply yac | apply yag | apply yad)); (case side2 => repeat (with_reducible first | exact HB.out | apply below_alloc | apply yaf | apply below_drew1 | refine below_set ?_ (IsS51.ge HI0.out))); rintro e w15 ⟨rfl, hi, hb, hk⟩; refine ⟨_, rfl, ?_⟩; replace a3 := yaa (Kd.R_mono (Kd.R_keep (IsS51.apart (show IsS51 w0 _ g s0_0 b6 from by repeat (with_reducible first | exact HI0.out | apply yab | apply yac | apply yag | apply yad)) (upR a3.out) (by decide)) hk (fun _ h => h.2)) (fun _ h => h.1)); replace HK := yaa (KeepBut.trans (by repeat (with_reducible first | exact HK.out | apply yae | apply keep_drewN | apply keep_drew | apply keep_alloc)) hk (.inl rfl)); replace HB := yaa (hb); replace HI0 := yaa (hi); (try clear hb hk hi)) | ((with_reducible refine gd_ 21 rfl ?_); refine Kd.R_lit (Kd.int .i64) _ 3 ?hg (N := 21) ?hd (xs := ([b1, b2, 255] : List Int)) (inner := [.int .i64 b1, .int .i64 b2, .int .i64 255]) (ok := fun _ => True) (okp := fun _ => True) ?hr ?hp (fun _ hk => hk) trivial (Below.refl _ _) (Nat.le_refl _) (by simp) ?_; (case hd => rfl); (case hg => rfl); (case hr => first | (go_simp; done) | (go_simp; rfl)); (case hp => exact (Reps.one (show Kd.M (Kd.int .i64) _ _ _ b1 [.int .i64 b1] from rfl) (Reps.one (show Kd.M (Kd.int .i64) _ _ _ b2 [.int .i64 b2] from rfl) (Reps.one (show Kd.M (Kd.int .i64) _ _ _ 255 [.int .i64 255] from rfl) (Reps.none _ _))))); intro c6 w16 b3 hb hg_ hnew_; clear hg_ hnew_; (first | rw [← Ny110.out] at b3 | (simp only [Int.reduceToNat] at b3; rw [← Ny110.out] at b3)); replace a3 := yaa (Kd.R_below (upR a3.out) hb); have a5 := yaa (Kd.R_lower b3 (keep_size (w := w) (g := g) (row := none) (by repeat (with_reducible first | exact HK.out | apply yae | apply keep_drewN | apply keep_drew | apply keep_alloc)))); replace HK := yaa (KeepBut.trans (by repeat (with_reducible first | exact HK.out | apply yae | apply keep_drewN | apply keep_drew | apply keep_alloc)) (KeepBut.of_below hb g none) (.inl rfl)); replace HB := yaa (below_step (by repeat (with_reducible first | exact HB.out | apply below_alloc | apply yaf | apply below_drew1 | refine below_set ?_ (IsS51.ge HI0.out))) hb); replace HI0 := yaa (IsS51.below (by repeat (with_reducible first | exact HI0.out | apply yab | apply yac | apply yag | apply yad)) hb); clear hb b3) | ((with_reducible refine gc_ 25 rfl ?_); refine gl_ (some 23) rfl Tryd.func25 #[.pointer (some ⟨g, 0, none⟩), .int .i64 3] ?_; (with_reducible refine (spec_l20Rd_pick.calls k1 g s0_0 b4 3 a6 b7 w0 _ ?side1 ?side2 A10.out).mono ?_); (case side1 => repeat (with_reducible first | exact HI0.out | apply yab | apply yac | apply yag | apply yad)); (case side2 => repeat (with_reducible first | exact HB.out | apply below_alloc | apply yaf | apply below_drew1 | refine below_set ?_ (IsS51.ge HI0.out))); rintro e w18 ⟨rfl, hi, hb, hk⟩; refine ⟨_, rfl, ?_⟩; replace a3 := yaa (Kd.R_mono (Kd.R_keep (IsS51.apart (show IsS51 w0 _ g s0_0 b4 from by repeat (with_reducible first | exact HI0.out | apply yab | apply yac | apply yag | apply yad)) (upR a3.out) (by decide)) hk (fun _ h => h.2)) (fun _ h => h.1)); replace a5 := yaa (Kd.R_mono (Kd.R_keep (IsS51.apart (show IsS51 w0 _ g s0_0 b4 from by repeat (with_reducible first | exact HI0.out | apply yab | apply yac | apply yag | apply yad)) (upR a5.out) (by decide)) hk (fun _ h => h.2)) (fun _ h => h.1)); replace HK := yaa (KeepBut.trans (by repeat (with_reducible first | exact HK.out | apply yae | apply keep_drewN | apply keep_drew | apply keep_alloc)) hk (.inl rfl)); replace HB := yaa (hb); replace HI0 := yaa (hi); (try clear hb hk hi); obtain ⟨c8, c9, c3⟩ := Kd.R_slice a5.out; subst c3; have p115 : 0 ≤ (a6 : Int) := of_decide_eq_true (by assumption); have q115 : a6 < (y110.length : Int) := of_decide_eq_true (by assumption); obtain ⟨ad115, c4, c0⟩ := Kd.at_int (Kd.R_reads' a5.out).2.2 a6 p115 q115; cases c4; replace p115 := eq_true p115; replace q115 := eq_true q115) | ((with_reducible refine gate_builtin (b := .append) (xs := #[.tmp 16, .tmp 27]) rfl ?_); at_builtin; refine Kd.R_append (Kd.int .u8) w.heap.size rfl (.tmp 16) (.tmp 27) 22 5 (.int .u8 0) 1 rfl Tryd.underlying22 info5 rfl (by decide) (by omega) u5 b0 ((rd y110 a6) % 256) [.int .u8 ((rd y110 a6) % 256)] (fun _ => True) (fun _ => False) rfl rfl ?aP (fun _ hk => hk.elim) ?aF ?aO (Below.refl _ _) ?aS ?aL ?_; (case aP => exact rfl); (case aF => exact (fun _ _ => trivial)); (case aO => exact (upR a3.out)); (case aS => exact (keep_size (w := w) (g := g) (row := none) (by repeat (with_reducible first | exact HK.out | apply yae | apply keep_drewN | apply keep_drew | apply keep_alloc)))); (case aL => have := LMc13.out; omega); intro d0 w20 ho hb hg hat; rw [← Ny116.out] at ho; replace a5 := yaa (Kd.R_over' (upR a5.out) (Kd.R_typed (upR a3.out)) (by decide) hg); replace HB := yaa (below_weaken (by repeat (with_reducible first | exact HB.out | apply below_alloc | apply yaf | apply below_drew1 | refine below_set ?_ (IsS51.ge HI0.out))) HL.out hb); replace HI0 := yaa (IsS51.grown (by repeat (with_reducible first | exact HI0.out | apply yab | apply yac | apply yag | apply yad)) hg (IsS51.own_ne HI0.out a3.out (by decide))); replace HK := yaa (KeepBut.trans (by repeat (with_reducible first | exact HK.out | apply yae | apply keep_drewN | apply keep_drew | apply keep_alloc)) (KeepBut.of_grown hg g) (Kd.R_base2 a3.out)); have b5 := yaa (ho); clear a3; clear ho hb hg hat))
       go_roundg k1
       case measure => have := HK1.out; omega
       case rel => exact ⟨(y116), (wrap64 (a8 - 1)), (b7), (by first | rfl | (simp; done) | (simp [*]; done)), H', ⟨by have := HK1.out; omega⟩, ⟨by first | exact b5.out | exact upR b5.out⟩, ⟨by repeat (with_reducible first | exact HI0.out | apply yab | apply yac | apply yag | apply yad)⟩, ⟨by repeat (with_reducible first | exact HK.out | apply yae | apply keep_drewN | apply keep_drew | apply keep_alloc)⟩, ⟨by repeat (with_reducible first | exact HB.out | apply below_alloc | apply yaf | apply below_drew1 | refine below_set ?_ (IsS51.ge HI0.out))⟩⟩
      ·
       rw [if_neg c13] at H
       exact absurd H (by simp)
     ·
      rw [if_neg c12] at H
      exact absurd H (by simp)
    ·
     rw [if_neg c11] at H
     exact absurd H (by simp)
   ·
    rw [if_neg c7] at H
    have c1 : decide (0 < a8) = false := decide_eq_false c7; clear c7
    simp only [Option.some.injEq, Prod.mk.injEq] at H
    obtain ⟨rfl, rfl⟩ := H
    go_wp2
    go_ret
    exact ⟨_, by first | rfl | (simp [*, errW_none, errW_some] <;> rfl), by first | exact a3.out | exact upR a3.out, by repeat (with_reducible first | exact HI0.out | apply yab | apply yac | apply yag | apply yad), by repeat (with_reducible first | exact HB.out | apply below_alloc | apply yaf | apply below_drew1 | refine below_set ?_ (IsS51.ge HI0.out)), by repeat (with_reducible first | exact HK.out | apply yae | apply keep_drewN | apply keep_drew | apply keep_alloc)⟩
end
section
def spec_l20Rd_odd.f (k : Nat) (s0_0 : List Int) (s0_1 : Int) (a1 : Int) : Option (Bool × Int) := if a1 > 0 then ((spec_l20Rd_pick.f k s0_0 s0_1 a1).bind fun bt101 => (some ((bt101.1 == (wrap64 (a1 - 1))), bt101.2))) else (some (false, s0_1))
set_option maxHeartbeats 8000000 in
set_option maxRecDepth 100000 in
theorem spec_l20Rd_odd.calls (k : Nat) (g : Nat) (s0_0 : List Int) (s0_1 : Int) (a1 : Int) (r1 : Bool) (r2 : Int) (w0 w : World) (hI : IsS51 w0 w g s0_0 s0_1) (hB : Below w0.heap.size w0 w) (h : spec_l20Rd_odd.f k s0_0 s0_1 a1 = some (r1, r2)) :
    Calls Tryd.prog 24 #[.pointer (some ⟨g, 0, none⟩), .int .i64 a1] w fun e w' => e = .returned (.bool r1) ∧ IsS51 w0 w' g s0_0 r2 ∧ Below w0.heap.size w0 w' ∧ KeepBut w w' g none := by
  have HI0 := Aside0.mk hI; have HK := Aside0.mk (KeepBut.refl w g none); have HL := Aside0.mk hB.size; clear hI; have HW0 := Aside0.mk hB.size; have HB := Aside0.mk hB; clear hB; have H : (if a1 > 0 then ((spec_l20Rd_pick.f k s0_0 s0_1 a1).bind fun bt101 => (some ((bt101.1 == (wrap64 (a1 - 1))), bt101.2))) else (some (false, s0_1))) = some (r1, r2) := h; clear h
  by_cases c3 : a1 > 0
  · rw [if_pos c3] at H
    have c3b0 : decide (0 < a1) = true := decide_eq_true c3; clear c3; obtain ⟨⟨t101, t102⟩, A4, H⟩ := bindA H; (try dsimp only at H)
    simp only [Option.some.injEq, Prod.mk.injEq] at H
    obtain ⟨rfl, rfl⟩ := H
    go_enter Tryd.func24, Tryd.ntmps24
    go_wp2_with (first | (go_at_call 25; (with_reducible refine (spec_l20Rd_pick.calls k g s0_0 s0_1 a1 t101 t102 w0 _ ?side1 ?side2 A4.out).mono ?_); (case side1 => repeat (with_reducible first | exact HI0.out | apply IsS51.alloc | apply IsS51.drewN | apply IsS51.drew | apply IsS51.set_1)); (case side2 => repeat (with_reducible first | exact HB.out | apply below_alloc | apply pw_below_drewN | apply below_drew1 | refine below_set ?_ (IsS51.ge HI0.out))); rintro e w5 ⟨rfl, hi, hb, hk⟩; replace HK := Aside0.mk (KeepBut.trans (by repeat (with_reducible first | exact HK.out | apply KeepBut.set_ | apply keep_drewN | apply keep_drew | apply keep_alloc)) hk (.inl rfl)); replace HB := Aside0.mk (hb); replace HI0 := Aside0.mk (hi); (try clear hb hk hi)))
    go_ret
    exact ⟨by first | rfl | (simp [*, errW_none, errW_some] <;> rfl), by repeat (with_reducible first | exact HI0.out | apply IsS51.alloc | apply IsS51.drewN | apply IsS51.drew | apply IsS51.set_1), by repeat (with_reducible first | exact HB.out | apply below_alloc | apply pw_below_drewN | apply below_drew1 | refine below_set ?_ (IsS51.ge HI0.out)), by repeat (with_reducible first | exact HK.out | apply KeepBut.set_ | apply keep_drewN | apply keep_drew | apply keep_alloc)⟩
  · rw [if_neg c3] at H
    have c3b0 : decide (0 < a1) = false := decide_eq_false c3; clear c3
    simp only [Option.some.injEq, Prod.mk.injEq] at H
    obtain ⟨rfl, rfl⟩ := H
    go_enter Tryd.func24, Tryd.ntmps24
    go_wp2
    go_ret
    exact ⟨by first | rfl | (simp [*, errW_none, errW_some] <;> rfl), by repeat (with_reducible first | exact HI0.out | apply IsS51.alloc | apply IsS51.drewN | apply IsS51.drew | apply IsS51.set_1), by repeat (with_reducible first | exact HB.out | apply below_alloc | apply pw_below_drewN | apply below_drew1 | refine below_set ?_ (IsS51.ge HI0.out)), by repeat (with_reducible first | exact HK.out | apply KeepBut.set_ | apply keep_drewN | apply keep_drew | apply keep_alloc)⟩
end
section
open Go.Proofs.YtfinaphomgdmlaaDoorW.PrintWords.Aside0 renaming mk → yaa
open Go.Proofs.YtfinaphomgdmlaaDoorW.PrintWords renaming pw_below_drewN → yab

def spec_DrawShaSum.f (k : Nat) (l0 : List Int) : Option (List Int) := (spec_l20Open.f l0).bind fun bt101 => ((spec_l20Bytes.f k bt101.1 bt101.2 130).bind fun bt104 => ((spec_l20Rd_odd.f k bt101.1 bt104.2 12).bind fun bt108 => (if bt108.1 = true then ((spec_l20Rd_pick.f k bt101.1 bt108.2 2).bind fun bt110 => (if 0 ≤ (wrap64 (500 + bt110.1)) then (if (wrap64 (500 + bt110.1) : Int).toNat ≤ 281474976710656 then (some (List.replicate (wrap64 (500 + bt110.1) : Int).toNat 0)) else (none)) else (none))) else (some bt104.1))))
set_option maxHeartbeats 8000000 in
set_option maxRecDepth 100000 in
theorem spec_DrawShaSum.calls (k : Nat) (A0 : Option Addr) (c0 : Nat) (l0 : List Int) (r : List Int) (w : World) (hr0 : Kd.C (Kd.int .u8) w A0 l0.length l0) (hc0 : l0.length ≤ c0) (h : spec_DrawShaSum.f k l0 = some r) :
  Calls Tryd.prog 14 #[.slice A0 l0.length c0] w fun e w' => ∃ v0_ : Value, e = .returned (v0_) ∧ Kd.R (Kd.int .u8) 5 w' w.heap.size (fun _ => True) v0_ r ∧ Below w.heap.size w w' := by
 have HR0 := yaa hr0; have HC0 := yaa hc0; clear hr0 hc0; have HB := yaa (Below.refl w.heap.size w); have H : ((spec_l20Open.f l0).bind fun a4 => ((spec_l20Bytes.f k a4.1 a4.2 130).bind fun b0 => ((spec_l20Rd_odd.f k a4.1 b0.2 12).bind fun b1 => (if b1.1 = true then ((spec_l20Rd_pick.f k a4.1 b1.2 2).bind fun a7 => (if 0 ≤ (wrap64 (500 + a7.1)) then (if (wrap64 (500 + a7.1) : Int).toNat ≤ 281474976710656 then (some (List.replicate (wrap64 (500 + a7.1) : Int).toNat 0)) else (none)) else (none))) else (some b0.1))))) = some r := h; clear h; obtain ⟨⟨a3, a8⟩, A2, H⟩ := bindA H; (try dsimp only at H); obtain ⟨⟨b3, a5⟩, A3, H⟩ := bindA H; (try dsimp only at H); obtain ⟨⟨b5, a9⟩, A4, H⟩ := bindA H; (try dsimp only at H)
 by_cases c5 : b5 = true
 ·
  subst c5
  rw [if_pos rfl] at H
  obtain ⟨⟨b2, b6⟩, A6, H⟩ := bindA H; (try dsimp only at H); obtain ⟨ji7, hji7⟩ : ∃ j_ : Int, (wrap64 (500 + b2)) = j_ := ⟨_, rfl⟩
  replace H : (if 0 ≤ (ji7) then (if (ji7 : Int).toNat ≤ 281474976710656 then (some (List.replicate (ji7 : Int).toNat 0)) else (none)) else (none)) = some r := by first | (rw [hji7] at H; exact H) | (simp only [hji7] at H ⊢; exact H)
  (try rw [hji7] at A2)
  (try rw [hji7] at A3)
  (try rw [hji7] at A4)
  (try rw [hji7] at A6)
  have hji7w : (IntKind.i64.wrap (500 + b2)) = ji7 := (i64_w _).trans hji7
  by_cases c8 : 0 ≤ (ji7)
  ·
   rw [if_pos c8] at H
   have b8 := eq_true c8; replace c8 := decide_eq_true c8
   by_cases c9 : (ji7 : Int).toNat ≤ 281474976710656
   ·
    rw [if_pos c9] at H
    have b9 := eq_true c9; replace c9 := decide_eq_true c9; obtain ⟨y112, hy112⟩ : ∃ y_ : List Int, y_ = (List.replicate (ji7 : Int).toNat 0) := ⟨_, rfl⟩
    replace H : (some y112) = some r := by first | (rw [hy112]; with_reducible exact H) | (have H2_ := (Option.bind_some _ _).symm.trans H; rw [hy112]; with_reducible exact H2_) | (have H2_ := (Option.bind_some _ _).symm.trans H; with_reducible exact H2_) | with_reducible exact H | (rw [hy112]; exact H) | exact H
    have Ny112 := yaa hy112; clear hy112; obtain rfl := Option.some.inj H
    go_enter Tryd.func14, Tryd.ntmps14
    go_wp2_with (first | ((with_reducible refine gc_ 22 rfl ?_); refine gl_ (some 6) rfl Tryd.func22 #[.slice A0 l0.length c0] ?_; (with_reducible refine (spec_l20Open.calls _ _ l0 a3 a8 w _ ?side1 ?side2 ?side3 A2.out).mono ?_); (case side1 => exact upH HB.out); (case side2 => exact HR0.out); (case side3 => exact HC0.out); rintro e w10 ⟨g103, rfl, hi, hb, hb2⟩; refine ⟨_, rfl, ?_⟩; replace HB := yaa (hb); have a1 := yaa (hi); (try clear hb hb2 hi)) | ((with_reducible refine gc_ 23 rfl ?_); refine gl_ (some 8) rfl Tryd.func23 #[.pointer (some ⟨g103, 0, none⟩), .int .i64 130] ?_; (with_reducible refine (spec_l20Bytes.calls k g103 a3 a8 130 b3 a5 w _ ?side1 ?side2 A3.out).mono ?_); (case side1 => repeat (with_reducible first | exact a1.out | apply IsS51.alloc | apply IsS51.drewN | apply IsS51.drew | apply IsS51.set_1)); (case side2 => repeat (with_reducible first | exact HB.out | apply below_alloc | apply yab | apply below_drew1 | refine below_set ?_ (IsS51.ge a1.out))); rintro e w11 ⟨b7, rfl, ho0, hi, hb, hk⟩; refine ⟨_, rfl, ?_⟩; have a2 := yaa (Kd.R_lower ho0 (below_size (by repeat (with_reducible first | exact HB.out | apply below_alloc | apply yab | apply below_drew1 | refine below_set ?_ (IsS51.ge a1.out))))); replace HB := yaa (hb); replace a1 := yaa (hi); (try clear hb hk hi ho0)) | ((with_reducible refine gc_ 24 rfl ?_); refine gl_ (some 10) rfl Tryd.func24 #[.pointer (some ⟨g103, 0, none⟩), .int .i64 12] ?_; (with_reducible refine (spec_l20Rd_odd.calls k g103 a3 a5 12 true a9 w _ ?side1 ?side2 A4.out).mono ?_); (case side1 => repeat (with_reducible first | exact a1.out | apply IsS51.alloc | apply IsS51.drewN | apply IsS51.drew | apply IsS51.set_1)); (case side2 => repeat (with_reducible first | exact HB.out | apply below_alloc | apply yab | apply below_drew1 | refine below_set ?_ (IsS51.ge a1.out))); rintro e w12 ⟨rfl, hi, hb, hk⟩; refine ⟨_, rfl, ?_⟩; replace a2 := yaa (Kd.R_mono (Kd.R_keep (IsS51.apart (show IsS51 w _ g103 a3 a5 from by repeat (with_reducible first | exact a1.out | apply IsS51.alloc | apply IsS51.drewN | apply IsS51.drew | apply IsS51.set_1)) (upR a2.out) (by decide)) hk (fun _ h => h.2)) (fun _ h => h.1)); replace HB := yaa (hb); replace a1 := yaa (hi); (try clear hb hk hi)) | ((with_reducible refine gc_ 25 rfl ?_); refine gl_ (some 12) rfl Tryd.func25 #[.pointer (some ⟨g103, 0, none⟩), .int .i64 2] ?_; (with_reducible refine (spec_l20Rd_pick.calls k g103 a3 a9 2 b2 b6 w _ ?side1 ?side2 A6.out).mono ?_); (case side1 => repeat (with_reducible first | exact a1.out | apply IsS51.alloc | apply IsS51.drewN | apply IsS51.drew | apply IsS51.set_1)); (case side2 => repeat (with_reducible first | exact HB.out | apply below_alloc | apply yab | apply below_drew1 | refine below_set ?_ (IsS51.ge a1.out))); rintro e w13 ⟨rfl, hi, hb, hk⟩; refine ⟨_, rfl, ?_⟩; replace a2 := yaa (Kd.R_mono (Kd.R_keep (IsS51.apart (show IsS51 w _ g103 a3 a9 from by repeat (with_reducible first | exact a1.out | apply IsS51.alloc | apply IsS51.drewN | apply IsS51.drew | apply IsS51.set_1)) (upR a2.out) (by decide)) hk (fun _ h => h.2)) (fun _ h => h.1)); replace HB := yaa (hb); replace a1 := yaa (hi); (try clear hb hk hi)) | ((with_reducible refine gd_ 14 rfl ?_); refine Kd.R_make (Kd.int .u8) _ 5 rfl (N := 14) rfl 22 _ _ rfl ji7 rfl rfl Tryd.underlying22 (.int .u8 0) 1 info5 rfl (by decide) (by omega) 0 (ok := fun _ => True) (okp := fun _ => True) rfl (fun _ hk => hk) trivial (of_decide_eq_true (by assumption)) (Nat.le_trans (Nat.mul_le_mul_right _ (of_decide_eq_true (by assumption) : ji7.toNat ≤ 281474976710656)) (by omega)) (Below.refl _ _) (Nat.le_refl _) ?_; intro c1 w14 a6 hb hg_ hnew_; clear hg_ hnew_; (first | rw [← Ny112.out] at a6 | (simp only [Int.reduceToNat] at a6; rw [← Ny112.out] at a6)); have b4 := yaa (Kd.R_lower (Kd.R_new' a6 (Kd.R_lt (upR a2.out))) (below_size (by repeat (with_reducible first | exact HB.out | apply below_alloc | apply yab | apply below_drew1 | refine below_set ?_ (IsS51.ge a1.out))))); replace a2 := yaa (Kd.R_elder' (upR a2.out) (Kd.R_base a6) hb); replace HB := yaa (below_step (by repeat (with_reducible first | exact HB.out | apply below_alloc | apply yab | apply below_drew1 | refine below_set ?_ (IsS51.ge a1.out))) hb); replace a1 := yaa (IsS51.below (by repeat (with_reducible first | exact a1.out | apply IsS51.alloc | apply IsS51.drewN | apply IsS51.drew | apply IsS51.set_1)) hb); clear hb a6))
    go_ret
    exact ⟨_, by first | rfl | (simp [errW_none, errW_some] <;> rfl) | (simp only [← hji7]; first | rfl | (simp [errW_none, errW_some] <;> rfl)) | (simp [*, errW_none, errW_some] <;> rfl), by (with_reducible repeat (first | apply Kd.R_alloc | apply Kd.R_drewN | apply Kd.R_drew)); exact Kd.R_mono b4.out (fun _ hk => trivial), by repeat (with_reducible first | exact HB.out | apply below_alloc | apply yab | apply below_drew1 | refine below_set ?_ (IsS51.ge a1.out))⟩
   ·
    rw [if_neg c9] at H
    exact absurd H (by simp)
  ·
   rw [if_neg c8] at H
   exact absurd H (by simp)
 ·
  replace c5 := Bool.eq_false_iff.mpr c5
  subst c5
  rw [if_neg (show ¬ (false = true) by decide)] at H
  obtain rfl := Option.some.inj H
  go_enter Tryd.func14, Tryd.ntmps14
  go_wp2_with (first | ((with_reducible refine gc_ 22 rfl ?_); refine gl_ (some 6) rfl Tryd.func22 #[.slice A0 l0.length c0] ?_; (with_reducible refine (spec_l20Open.calls _ _ l0 a3 a8 w _ ?side1 ?side2 ?side3 A2.out).mono ?_); (case side1 => exact upH HB.out); (case side2 => exact HR0.out); (case side3 => exact HC0.out); rintro e w16 ⟨g103, rfl, hi, hb, hb2⟩; refine ⟨_, rfl, ?_⟩; replace HB := yaa (hb); have a1 := yaa (hi); (try clear hb hb2 hi)) | ((with_reducible refine gc_ 23 rfl ?_); refine gl_ (some 8) rfl Tryd.func23 #[.pointer (some ⟨g103, 0, none⟩), .int .i64 130] ?_; (with_reducible refine (spec_l20Bytes.calls k g103 a3 a8 130 b3 a5 w _ ?side1 ?side2 A3.out).mono ?_); (case side1 => repeat (with_reducible first | exact a1.out | apply IsS51.alloc | apply IsS51.drewN | apply IsS51.drew | apply IsS51.set_1)); (case side2 => repeat (with_reducible first | exact HB.out | apply below_alloc | apply yab | apply below_drew1 | refine below_set ?_ (IsS51.ge a1.out))); rintro e w17 ⟨b7, rfl, ho0, hi, hb, hk⟩; refine ⟨_, rfl, ?_⟩; have a2 := yaa (Kd.R_lower ho0 (below_size (by repeat (with_reducible first | exact HB.out | apply below_alloc | apply yab | apply below_drew1 | refine below_set ?_ (IsS51.ge a1.out))))); replace HB := yaa (hb); replace a1 := yaa (hi); (try clear hb hk hi ho0)) | ((with_reducible refine gc_ 24 rfl ?_); refine gl_ (some 10) rfl Tryd.func24 #[.pointer (some ⟨g103, 0, none⟩), .int .i64 12] ?_; (with_reducible refine (spec_l20Rd_odd.calls k g103 a3 a5 12 false a9 w _ ?side1 ?side2 A4.out).mono ?_); (case side1 => repeat (with_reducible first | exact a1.out | apply IsS51.alloc | apply IsS51.drewN | apply IsS51.drew | apply IsS51.set_1)); (case side2 => repeat (with_reducible first | exact HB.out | apply below_alloc | apply yab | apply below_drew1 | refine below_set ?_ (IsS51.ge a1.out))); rintro e w18 ⟨rfl, hi, hb, hk⟩; refine ⟨_, rfl, ?_⟩; replace a2 := yaa (Kd.R_mono (Kd.R_keep (IsS51.apart (show IsS51 w _ g103 a3 a5 from by repeat (with_reducible first | exact a1.out | apply IsS51.alloc | apply IsS51.drewN | apply IsS51.drew | apply IsS51.set_1)) (upR a2.out) (by decide)) hk (fun _ h => h.2)) (fun _ h => h.1)); replace HB := yaa (hb); replace a1 := yaa (hi); (try clear hb hk hi)))
  go_ret
  exact ⟨_, by first | rfl | (simp [*, errW_none, errW_some] <;> rfl), by first | exact a2.out | exact upR a2.out, by repeat (with_reducible first | exact HB.out | apply below_alloc | apply yab | apply below_drew1 | refine below_set ?_ (IsS51.ge a1.out))⟩
end
section
def laws_eaBytes.f (l0 : List Int) (l1 : List Int) : Option (Bool) := some ((strOfNums l0).toList == (strOfNums l1).toList)
set_option maxHeartbeats 8000000 in
set_option maxRecDepth 100000 in
theorem laws_eaBytes.calls (A0 : Option Addr) (c0 : Nat) (l0 : List Int) (A1 : Option Addr) (c1 : Nat) (l1 : List Int) (r : Bool) (w : World) (hr0 : Kd.C (Kd.int .u8) w A0 l0.length l0) (hc0 : l0.length ≤ c0) (hr1 : Kd.C (Kd.int .u8) w A1 l1.length l1) (hc1 : l1.length ≤ c1) (h : laws_eaBytes.f l0 l1 = some r) :
    Calls Tryd.prog 15 #[.slice A0 l0.length c0, .slice A1 l1.length c1] w fun e w' => e = .returned (.bool r) ∧ Drawn0 w w' := by
  have HR0 := Aside0.mk hr0; have HC0 := Aside0.mk hc0; clear hr0 hc0; have HR1 := Aside0.mk hr1; have HC1 := Aside0.mk hc1; clear hr1 hc1; have H : (some ((strOfNums l0).toList == (strOfNums l1).toList)) = some r := h; clear h; obtain rfl := Option.some.inj H; have hcv3 := Kd.C_string (P := Tryd.prog) (A := A0) (c := c0) Tryd.underlying22 Tryd.underlying5 Tryd.underlying9 HR0.out; have hcv4 := Kd.C_string (P := Tryd.prog) (A := A1) (c := c1) Tryd.underlying22 Tryd.underlying5 Tryd.underlying9 HR1.out
  go_enter Tryd.func15, Tryd.ntmps15
  go_wp2
  go_ret
  exact ⟨by first | rfl | (simp; done) | (simp [*]; done), by repeat (first | exact Drawn0.refl _ | apply Drawn0.step)⟩
end
section

end
section

end
section

end
section

end
section
open Go.Proofs.YtfinaphomgdmlaaDoorW.PrintWords.Aside0 renaming mk → yaa
end
section

end
end Go.Proofs.YtfinaphomgdmlaaDoor.X
