/- Lemmas and contracts for the law FnExactOpText, part 2: of the program's functions, and over data alone. Conditions: the listed package-level variables begin as the program's text lays them (tied by the card). -/
import Derived.Test.YtiihhjfdgojkeaaDoorMFnExactOpText1
import Derived.Test.YtiihhjfdgojkeaaDoorProg
import Derived.Below
import Derived.Deep.Draws
import Derived.Deep.AppendLies
import Derived.Maps.AppendAt
import Derived.OwnWalk
import Derived.Laws.BytesArg
import Derived.Laws.MakeOwn
import Derived.Laws.OwnMore
import Derived.Deep.OwnRows
import Derived.Tactics
import Derived.Lib.ConvBytes
import Derived.Laws.Slices
import Derived.WalkKit
import Derived.KernelRfl
import Derived.RowKit3
import Derived.Deep.LoopGhost
import Derived.Deep.QuietTactic
import Derived.BigQuiet
import Derived.WideLaws
import Derived.Deep.DeepCutAuto
import Derived.Deep.CutBlock
import Derived.Deep.RegionHeld3
import Derived.Laws.Rows
import Derived.Lib.AppendStr
import Derived.ArgAppend
import Derived.Laws.IdiomCopy
import Derived.OrdersHeld
import Derived.Laws.BitsLemmas
import Derived.RowKit
import Derived.ChangeArms
import Derived.WideShapes
import Derived.DataElems
import Derived.DataReads
namespace Go.Proofs.YtiihhjfdgojkeaaDoorW.PrintLast
open Go.RowKit Go.Proofs.YtiihhjfdgojkeaaDoorW.PrintWords
variable {P : Program} {ops : Array Oper} {Q : Exit → Act → World → Prop} {S : World → Prop} {ds : List Nat}
/-! ### What is kept in a world that was made of another one by making blocks and by drawing -/
class UpW (w w' : World) : Prop where
  step : ∀ K : World → Prop, (∀ v O, K v → K (v.alloc O)) → (∀ v, K v → K v.drew) → (∀ v n, K v → K (v.drewN n)) → K w → K w'
instance upw_refl (w : World) : UpW w w := ⟨fun _ _ _ _ h => h⟩
instance upw_alloc (w w' : World) (O : Obj) [h : UpW w w'] : UpW w (w'.alloc O) := ⟨fun K a b c k => a _ _ (h.step K a b c k)⟩
instance upw_drew (w w' : World) [h : UpW w w'] : UpW w w'.drew := ⟨fun K a b c k => b _ (h.step K a b c k)⟩
instance upw_drewN (w w' : World) (n : Nat) [h : UpW w w'] : UpW w (w'.drewN n) := ⟨fun K a b c k => c _ _ (h.step K a b c k)⟩
theorem upB {w w' : World} {g : Nat} {o : Obj} (h : w.heap[g]? = some o) [u : UpW w w'] : w'.heap[g]? = some o := u.step (fun v => v.heap[g]? = some o) (fun _ O k => blk_alloc k O) (fun _ k => blk_drew k) (fun _ n k => blk_drewN k n) h
theorem upR {α : Type} {d : Kd α} {e base : Nat} {ok : Nat → Prop} {w w' : World} {v : Value} {xs : List α} (h : d.R e w base ok v xs) [u : UpW w w'] : d.R e w' base ok v xs := u.step (fun x => d.R e x base ok v xs) (fun _ O k => Kd.R_alloc k O) (fun _ k => Kd.R_drew k) (fun _ n k => Kd.R_drewN k n) h
theorem upH {w0 w w' : World} (h : Below w0.heap.size w0 w) [u : UpW w w'] : Below w0.heap.size w0 w' := u.step (fun x => Below w0.heap.size w0 x) (fun _ O k => below_alloc k O) (fun _ k => below_drew1 k) (fun _ n k => pw_below_drewN k n) h
/-- One world made of another by making a block or by drawing. -/
class OneW (w : outParam World) (w' : World) : Prop where
  up : UpW w w'
instance onew_alloc (w : World) (O : Obj) : OneW w (w.alloc O) := ⟨inferInstance⟩
instance onew_drew (w : World) : OneW w w.drew := ⟨inferInstance⟩
instance onew_drewN (w : World) (n : Nat) : OneW w (w.drewN n) := ⟨inferInstance⟩
theorem oneB {w w' : World} {g : Nat} {o : Obj} (h : w.heap[g]? = some o) [u : OneW w w'] : w'.heap[g]? = some o := @upB _ _ _ _ h u.up
/-! ### Cells of a block -/
section
variable {w : World} {g t : Nat} {a b c d e f i j k : Value}
theorem cc4_ (h : w.heap[g]? = some (.cells #[a, b, c, d] t (0, 0))) : w.cell? ⟨g, 0, none⟩ = some a ∧ w.cell? ⟨g, 1, none⟩ = some b ∧ w.cell? ⟨g, 2, none⟩ = some c ∧ w.cell? ⟨g, 3, none⟩ = some d := ⟨(blk_cell h 0).trans rfl, (blk_cell h 1).trans rfl, (blk_cell h 2).trans rfl, (blk_cell h 3).trans rfl⟩
theorem cc5_ (h : w.heap[g]? = some (.cells #[a, b, c, d, e] t (0, 0))) : w.cell? ⟨g, 0, none⟩ = some a ∧ w.cell? ⟨g, 1, none⟩ = some b ∧ w.cell? ⟨g, 2, none⟩ = some c ∧ w.cell? ⟨g, 3, none⟩ = some d ∧ w.cell? ⟨g, 4, none⟩ = some e := ⟨(blk_cell h 0).trans rfl, (blk_cell h 1).trans rfl, (blk_cell h 2).trans rfl, (blk_cell h 3).trans rfl, (blk_cell h 4).trans rfl⟩
variable {cs : Array Value}
theorem cf4_ (h : w.heap[g]? = some (.cells cs t (0, 0))) : w.frozen? ⟨g, 0, none⟩ = false ∧ w.frozen? ⟨g, 1, none⟩ = false ∧ w.frozen? ⟨g, 2, none⟩ = false ∧ w.frozen? ⟨g, 3, none⟩ = false := ⟨blk_frozen h 0, blk_frozen h 1, blk_frozen h 2, blk_frozen h 3⟩
theorem cf5_ (h : w.heap[g]? = some (.cells cs t (0, 0))) : w.frozen? ⟨g, 0, none⟩ = false ∧ w.frozen? ⟨g, 1, none⟩ = false ∧ w.frozen? ⟨g, 2, none⟩ = false ∧ w.frozen? ⟨g, 3, none⟩ = false ∧ w.frozen? ⟨g, 4, none⟩ = false := ⟨blk_frozen h 0, blk_frozen h 1, blk_frozen h 2, blk_frozen h 3, blk_frozen h 4⟩
end
/-- A step of what a function comes to. -/
theorem bindA {α β : Type} {x : Option α} {f : α → Option β} {r : β} (H : x.bind f = some r) : ∃ a, Aside0 (x = some a) ∧ f a = some r := by
  obtain ⟨a, h, k⟩ := Option.bind_eq_some_iff.mp H
  exact ⟨a, ⟨h⟩, k⟩
theorem bindY {α β : Type} {L : α} {F : α → Option β} {r : Option β} (H : (some L).bind F = r) : ∃ y, y = L ∧ F y = r := ⟨L, rfl, H⟩
section
variable {P : Program} {ops : Array Oper} {rest : List Oper} {o : Oper} {a : Act} {Q : Exit → Act → World → Prop}
/-- A block is made. -/
theorem bx_ {W : World} (N : Tmp) (hd : o.dst = some N) (cs : Array Value) (t : TypeId)
    (h : ∀ g, g = W.heap.size → ∀ w1, w1.heap[g]? = some (.cells cs t (0, 0)) → Below W.heap.size W w1 → wpList P ops Q rest (a.put o.dst (.pointer (some ⟨g, 0, none⟩))) w1)
    (hg : o.guard = none := by first | rfl | (simp [Region.wanted, yielded, *]; done))
    (hr : (execOp a.eval o).run P W = .ok (.value (.pointer (some ⟨W.heap.size, 0, none⟩))) (W.alloc (.cells cs t (0, 0))) := by first | (go_simp; done) | (go_simp; rfl)) : wpList P ops Q (o :: rest) a W := box_event hg hd hr h
theorem gc_ (f : FuncId) {W : World} {as1 : Array Operand} {ts : Array TypeId} (_ho : o.op = .call { callee := .value (.func f), args := as1, argTypes := ts }) (h : wpList P ops Q (o :: rest) a W) : wpList P ops Q (o :: rest) a W := h
theorem gd_ (N : Tmp) {W : World} (_hN : o.dst = some N) (h : wpList P ops Q (o :: rest) a W) : wpList P ops Q (o :: rest) a W := h
/-- A call. -/
theorem gl_ {w : World} (N : Option Tmp) (hd : o.dst = N) {f : FuncId} {fn : Func} {aa : Array Operand} {ts : Array TypeId} (hf : P.funcs[f]? = some fn) (args : Array Value)
    (h : Calls P f args w fun e w' => ∃ v, e = .returned v ∧ wpList P ops Q rest (a.put N v) w') (hg : o.guard = none := by rfl) (hname : (fn.name == "runtime.NumGoroutine") = false := by kernel_rfl) (hb : fn.body.isSome = true := by rfl)
    (hop : o.op = .call { callee := .value (.func f), args := aa, argTypes := ts } := by rfl) (hargs : aa.map a.eval = args := by ((try simp only [List.map_toArray, List.map_cons, List.map_nil]); first | done | rfl | (simp only [List.length_drop, List.length_take]; rfl))) : wpList P ops Q (o :: rest) a w :=
  goesL_ N hd hg hf hname hb args hop hargs h
end
end Go.Proofs.YtiihhjfdgojkeaaDoorW.PrintLast
namespace Go.Proofs.YtiihhjfdgojkeaaDoor.X
open Go.RowKit Go.Proofs.YtiihhjfdgojkeaaDoorW.PrintWords Go.Proofs.YtiihhjfdgojkeaaDoorW.PrintLast Go.Proofs.YtiihhjfdgojkeaaDoorW.PrintMore
attribute [local go_sem] max2_int min2_int max_two min_two max_three min_three max_four min_four
set_option linter.unusedVariables false
set_option linter.unusedSimpArgs false

section
def errW : Option Int → Value
  | none => .nilIface
  | some c => .iface 0 (.int .i64 c)
theorem errW_none : errW none = .nilIface := rfl
theorem errW_some (c : Int) : errW (some c) = .iface 0 (.int .i64 c) := rfl

-- the values' own types
/-! #### struct type 23 -/
structure S23 where
  f0 : Int
  f1 : Int
  f2 : Int
  f3 : Int
  f4 : Int

/-! #### struct type 25 -/
structure S25 where
  f0 : Int
  f1 : Int
  f2 : Int
  f3 : Int
  f4 : Int
def z25 : S25 := ⟨(0 : Int), (0 : Int), (0 : Int), (0 : Int), (0 : Int)⟩
def rd_T25 (xs : List S25) (i : Int) : S25 := xs.getD i.toNat z25
end
section
def spec_l1In.f (a0 : Int) (a1 : Int) (a2 : Int) : Option (Bool) := if a0 ≥ a1 then (some (decide (a0 ≤ a2))) else (some false)
set_option maxHeartbeats 8000000 in
set_option maxRecDepth 100000 in
theorem spec_l1In.calls (a0 : Int) (a1 : Int) (a2 : Int) (r : Bool) (w : World) (h : spec_l1In.f a0 a1 a2 = some r) :
    Calls Tryd.prog 64 #[.int .i64 a0, .int .i64 a1, .int .i64 a2] w fun e w' => e = .returned (.bool r) ∧ Drawn0 w w' := by
  have H : (if a0 ≥ a1 then (some (decide (a0 ≤ a2))) else (some false)) = some r := h; clear h
  by_cases c4 : a0 ≥ a1
  · rw [if_pos c4] at H
    have c4b0 : decide (a1 ≤ a0) = true := decide_eq_true c4; clear c4; obtain rfl := Option.some.inj H
    go_enter Tryd.func64, Tryd.ntmps64
    go_wp2
    go_ret
    exact ⟨by first | rfl | (simp; done) | (simp [*]; done), by repeat (first | exact Drawn0.refl _ | apply Drawn0.step)⟩
  · rw [if_neg c4] at H
    have c4b0 : decide (a1 ≤ a0) = false := decide_eq_false c4; clear c4; obtain rfl := Option.some.inj H
    go_enter Tryd.func64, Tryd.ntmps64
    go_wp2
    go_ret
    exact ⟨by first | rfl | (simp; done) | (simp [*]; done), by repeat (first | exact Drawn0.refl _ | apply Drawn0.step)⟩
end
section
open Go.Proofs.YtiihhjfdgojkeaaDoorW.PrintWords.Aside0 renaming mk → yaa
open Go.Proofs.YtiihhjfdgojkeaaDoorW.PrintWords renaming pw_below_drewN → yab, below_alloc → yac, below_drew1 → yad, below_size → yae, below_step → yaf, blk_frozen → yag, below_set → yah

def spec_OpOk.f (a0_0 : Int) (a0_1 : Int) (a0_2 : Int) (a0_3 : Int) (a0_4 : Int) : Option (Bool) := if a0_0 = 1 then ((spec_l1In.f a0_1 0 5).bind fun t102 => (if t102 = true then ((spec_l1In.f a0_2 0 5).bind fun t103 => (if t103 = true then ((spec_l1In.f a0_3 1 6).bind fun t104 => (if t104 = true then ((spec_l1In.f a0_4 1 6).bind fun t105 => (some t105)) else (some false))) else (some false))) else (some false))) else (if a0_0 = 7 then ((spec_l1In.f a0_1 1 6).bind fun t106 => (if t106 = true then ((spec_l1In.f a0_2 1 6).bind fun t107 => (if t107 = true then (if a0_3 = 0 then (some (a0_4 == 0)) else (some false)) else (some false))) else (some false))) else (if a0_0 = 8 then ((spec_l1In.f a0_1 0 255).bind fun t108 => (if t108 = true then ((spec_l1In.f a0_2 0 255).bind fun t109 => (if t109 = true then ((spec_l1In.f a0_3 0 255).bind fun t110 => (if t110 = true then (some (a0_4 == 0)) else (some false))) else (some false))) else (some false))) else ((spec_l1In.f a0_0 2 6).bind fun t111 => (if t111 = true then (if a0_1 = 0 then (if a0_2 = 0 then (if a0_3 = 0 then (some (a0_4 == 0)) else (some false)) else (some false)) else (some false)) else (some false)))))
set_option maxHeartbeats 8000000 in
set_option maxRecDepth 100000 in
theorem spec_OpOk.calls (a0_0 : Int) (a0_1 : Int) (a0_2 : Int) (a0_3 : Int) (a0_4 : Int) (r : Bool) (w : World) (h : spec_OpOk.f a0_0 a0_1 a0_2 a0_3 a0_4 = some r) :
  Calls Tryd.prog 35 #[.agg #[.int .i64 a0_0, .int .i64 a0_1, .int .i64 a0_2, .int .i64 a0_3, .int .i64 a0_4]] w fun e w' => e = .returned (.bool r) ∧ Below w.heap.size w w' := by
 have hu25 := Tryd.underlying25; have HB := yaa (Below.refl w.heap.size w); have H : (if a0_0 = 1 then ((spec_l1In.f a0_1 0 5).bind fun a6 => (if a6 = true then ((spec_l1In.f a0_2 0 5).bind fun a7 => (if a7 = true then ((spec_l1In.f a0_3 1 6).bind fun a8 => (if a8 = true then ((spec_l1In.f a0_4 1 6).bind fun a9 => (some a9)) else (some false))) else (some false))) else (some false))) else (if a0_0 = 7 then ((spec_l1In.f a0_1 1 6).bind fun b0 => (if b0 = true then ((spec_l1In.f a0_2 1 6).bind fun b1 => (if b1 = true then (if a0_3 = 0 then (some (a0_4 == 0)) else (some false)) else (some false))) else (some false))) else (if a0_0 = 8 then ((spec_l1In.f a0_1 0 255).bind fun b2 => (if b2 = true then ((spec_l1In.f a0_2 0 255).bind fun b3 => (if b3 = true then ((spec_l1In.f a0_3 0 255).bind fun b4 => (if b4 = true then (some (a0_4 == 0)) else (some false))) else (some false))) else (some false))) else ((spec_l1In.f a0_0 2 6).bind fun b5 => (if b5 = true then (if a0_1 = 0 then (if a0_2 = 0 then (if a0_3 = 0 then (some (a0_4 == 0)) else (some false)) else (some false)) else (some false)) else (some false)))))) = some r := h; clear h
 by_cases c2 : a0_0 = 1
 ·
  rw [if_pos c2] at H
  have u2 := beq_iff_eq.mpr c2; have u3 := bne_eq_false_iff_eq.mpr c2; clear c2; obtain ⟨a6, A3, H⟩ := bindA H; (try dsimp only at H)
  by_cases c4 : a6 = true
  ·
   subst c4
   rw [if_pos rfl] at H
   obtain ⟨a7, A5, H⟩ := bindA H; (try dsimp only at H)
   by_cases c6 : a7 = true
   ·
    subst c6
    rw [if_pos rfl] at H
    obtain ⟨a8, A7, H⟩ := bindA H; (try dsimp only at H)
    by_cases c8 : a8 = true
    ·
     subst c8
     rw [if_pos rfl] at H
     obtain ⟨a9, A9, H⟩ := bindA H; (try dsimp only at H); obtain rfl := Option.some.inj H
     go_enter Tryd.func35, Tryd.ntmps35
     go_wp2_with (first | ((with_reducible refine gd_ 1 rfl ?_); refine bx_ 1 rfl #[.int .i64 a0_0, .int .i64 a0_1, .int .i64 a0_2, .int .i64 a0_3, .int .i64 a0_4] 25 ?_; intro a1 hg w10 hbox hb; have a0 := yaa (hbox); have a2 := yaa ((by rw [hg]; exact (yae (upH HB.out)) : w.heap.size ≤ a1)); replace HB := yaa (yaf (upH HB.out) hb); have a3 := a2; clear hb hbox hg; obtain ⟨d2, d3, d4, d5, d6⟩ := cc5_ a0.out; obtain ⟨d7, d8, d9, e0⟩ := cf4_ a0.out; have e1 := yag a0.out 4) | ((with_reducible refine gc_ 64 rfl ?_); refine gl_ (some 9) rfl Tryd.func64 #[.int .i64 a0_1, .int .i64 0, .int .i64 5] ?_; (with_reducible refine (spec_l1In.calls a0_1 0 5 true _ A3.out).mono ?_); rintro e w' ⟨rfl, ⟨nd, rfl⟩⟩; refine ⟨_, rfl, ?_⟩) | (go_at_call 64; (with_reducible refine (spec_l1In.calls a0_2 0 5 true _ A5.out).mono ?_); rintro e w' ⟨rfl, ⟨nd, rfl⟩⟩) | (go_at_call 64; (with_reducible refine (spec_l1In.calls a0_3 1 6 true _ A7.out).mono ?_); rintro e w' ⟨rfl, ⟨nd, rfl⟩⟩) | (go_at_call 64; (with_reducible refine (spec_l1In.calls a0_4 1 6 a9 _ A9.out).mono ?_); rintro e w' ⟨rfl, ⟨nd, rfl⟩⟩))
     go_ret
     exact ⟨by first | rfl | (simp [*, errW_none, errW_some] <;> rfl), by repeat (with_reducible first | exact HB.out | apply yac | apply yab | apply yad | refine yah ?_ (Aside0.out ‹_›))⟩
    ·
     replace c8 := Bool.eq_false_iff.mpr c8
     subst c8
     rw [if_neg (show ¬ (false = true) by decide)] at H
     obtain rfl := Option.some.inj H
     go_enter Tryd.func35, Tryd.ntmps35
     go_wp2_with (first | ((with_reducible refine gd_ 1 rfl ?_); refine bx_ 1 rfl #[.int .i64 a0_0, .int .i64 a0_1, .int .i64 a0_2, .int .i64 a0_3, .int .i64 a0_4] 25 ?_; intro a1 hg w12 hbox hb; have a0 := yaa (hbox); have a2 := yaa ((by rw [hg]; exact (yae (upH HB.out)) : w.heap.size ≤ a1)); replace HB := yaa (yaf (upH HB.out) hb); have a3 := a2; clear hb hbox hg; obtain ⟨e2, e3, e4, e5, e6⟩ := cc5_ a0.out; obtain ⟨e7, e8, e9, f0⟩ := cf4_ a0.out; have f1 := yag a0.out 4) | ((with_reducible refine gc_ 64 rfl ?_); refine gl_ (some 9) rfl Tryd.func64 #[.int .i64 a0_1, .int .i64 0, .int .i64 5] ?_; (with_reducible refine (spec_l1In.calls a0_1 0 5 true _ A3.out).mono ?_); rintro e w' ⟨rfl, ⟨nd, rfl⟩⟩; refine ⟨_, rfl, ?_⟩) | (go_at_call 64; (with_reducible refine (spec_l1In.calls a0_2 0 5 true _ A5.out).mono ?_); rintro e w' ⟨rfl, ⟨nd, rfl⟩⟩) | (go_at_call 64; (with_reducible refine (spec_l1In.calls a0_3 1 6 false _ A7.out).mono ?_); rintro e w' ⟨rfl, ⟨nd, rfl⟩⟩))
     go_ret
     exact ⟨by first | rfl | (simp [*, errW_none, errW_some] <;> rfl), by repeat (with_reducible first | exact HB.out | apply yac | apply yab | apply yad | refine yah ?_ (Aside0.out ‹_›))⟩
   ·
    replace c6 := Bool.eq_false_iff.mpr c6
    subst c6
    rw [if_neg (show ¬ (false = true) by decide)] at H
    obtain rfl := Option.some.inj H
    go_enter Tryd.func35, Tryd.ntmps35
    go_wp2_with (first | ((with_reducible refine gd_ 1 rfl ?_); refine bx_ 1 rfl #[.int .i64 a0_0, .int .i64 a0_1, .int .i64 a0_2, .int .i64 a0_3, .int .i64 a0_4] 25 ?_; intro a1 hg w14 hbox hb; have a0 := yaa (hbox); have a2 := yaa ((by rw [hg]; exact (yae (upH HB.out)) : w.heap.size ≤ a1)); replace HB := yaa (yaf (upH HB.out) hb); have a3 := a2; clear hb hbox hg; obtain ⟨f2, f3, f4, f5, f6⟩ := cc5_ a0.out; obtain ⟨f7, f8, f9, g0⟩ := cf4_ a0.out; have g1 := yag a0.out 4) | ((with_reducible refine gc_ 64 rfl ?_); refine gl_ (some 9) rfl Tryd.func64 #[.int .i64 a0_1, .int .i64 0, .int .i64 5] ?_; (with_reducible refine (spec_l1In.calls a0_1 0 5 true _ A3.out).mono ?_); rintro e w' ⟨rfl, ⟨nd, rfl⟩⟩; refine ⟨_, rfl, ?_⟩) | (go_at_call 64; (with_reducible refine (spec_l1In.calls a0_2 0 5 false _ A5.out).mono ?_); rintro e w' ⟨rfl, ⟨nd, rfl⟩⟩))
    go_ret
    exact ⟨by first | rfl | (simp [*, errW_none, errW_some] <;> rfl), by repeat (with_reducible first | exact HB.out | apply yac | apply yab | apply yad | refine yah ?_ (Aside0.out ‹_›))⟩
  ·
   replace c4 := Bool.eq_false_iff.mpr c4
   subst c4
   rw [if_neg (show ¬ (false = true) by decide)] at H
   obtain rfl := Option.some.inj H
   go_enter Tryd.func35, Tryd.ntmps35
   go_wp2_with (first | ((with_reducible refine gd_ 1 rfl ?_); refine bx_ 1 rfl #[.int .i64 a0_0, .int .i64 a0_1, .int .i64 a0_2, .int .i64 a0_3, .int .i64 a0_4] 25 ?_; intro a1 hg w16 hbox hb; have a0 := yaa (hbox); have a2 := yaa ((by rw [hg]; exact (yae (upH HB.out)) : w.heap.size ≤ a1)); replace HB := yaa (yaf (upH HB.out) hb); have a3 := a2; clear hb hbox hg; obtain ⟨g2, g3, g4, g5, g6⟩ := cc5_ a0.out; obtain ⟨g7, g8, g9, h0⟩ := cf4_ a0.out; have h1 := yag a0.out 4) | ((with_reducible refine gc_ 64 rfl ?_); refine gl_ (some 9) rfl Tryd.func64 #[.int .i64 a0_1, .int .i64 0, .int .i64 5] ?_; (with_reducible refine (spec_l1In.calls a0_1 0 5 false _ A3.out).mono ?_); rintro e w' ⟨rfl, ⟨nd, rfl⟩⟩; refine ⟨_, rfl, ?_⟩))
   go_ret
   exact ⟨by first | rfl | (simp [*, errW_none, errW_some] <;> rfl), by repeat (with_reducible first | exact HB.out | apply yac | apply yab | apply yad | refine yah ?_ (Aside0.out ‹_›))⟩
 ·
  rw [if_neg c2] at H
  have u2 := beq_eq_false_iff_ne.mpr c2; have u3 := bne_iff_ne.mpr c2
  by_cases c18 : a0_0 = 7
  ·
   rw [if_pos c18] at H
   have b6 := beq_iff_eq.mpr c18; have b7 := bne_eq_false_iff_eq.mpr c18; clear c18; obtain ⟨b0, A19, H⟩ := bindA H; (try dsimp only at H)
   by_cases c20 : b0 = true
   ·
    subst c20
    rw [if_pos rfl] at H
    obtain ⟨b1, A21, H⟩ := bindA H; (try dsimp only at H)
    by_cases c22 : b1 = true
    ·
     subst c22
     rw [if_pos rfl] at H
     by_cases c23 : a0_3 = 0
     ·
      rw [if_pos c23] at H
      have b8 := beq_iff_eq.mpr c23; have b9 := bne_eq_false_iff_eq.mpr c23; clear c23; obtain rfl := Option.some.inj H
      go_enter Tryd.func35, Tryd.ntmps35
      go_wp2_with (first | ((with_reducible refine gd_ 1 rfl ?_); refine bx_ 1 rfl #[.int .i64 a0_0, .int .i64 a0_1, .int .i64 a0_2, .int .i64 a0_3, .int .i64 a0_4] 25 ?_; intro a1 hg w24 hbox hb; have a0 := yaa (hbox); have a2 := yaa ((by rw [hg]; exact (yae (upH HB.out)) : w.heap.size ≤ a1)); replace HB := yaa (yaf (upH HB.out) hb); have a3 := a2; clear hb hbox hg; obtain ⟨h2, h3, h4, h5, h6⟩ := cc5_ a0.out; obtain ⟨h7, h8, h9, i0⟩ := cf4_ a0.out; have i1 := yag a0.out 4) | ((with_reducible refine gc_ 64 rfl ?_); refine gl_ (some 29) rfl Tryd.func64 #[.int .i64 a0_1, .int .i64 1, .int .i64 6] ?_; (with_reducible refine (spec_l1In.calls a0_1 1 6 true _ A19.out).mono ?_); rintro e w' ⟨rfl, ⟨nd, rfl⟩⟩; refine ⟨_, rfl, ?_⟩) | (go_at_call 64; (with_reducible refine (spec_l1In.calls a0_2 1 6 true _ A21.out).mono ?_); rintro e w' ⟨rfl, ⟨nd, rfl⟩⟩))
      go_ret
      exact ⟨by first | rfl | (simp [*, errW_none, errW_some] <;> rfl), by repeat (with_reducible first | exact HB.out | apply yac | apply yab | apply yad | refine yah ?_ (Aside0.out ‹_›))⟩
     ·
      rw [if_neg c23] at H
      have b8 := beq_eq_false_iff_ne.mpr c23; have b9 := bne_iff_ne.mpr c23; obtain rfl := Option.some.inj H
      go_enter Tryd.func35, Tryd.ntmps35
      go_wp2_with (first | ((with_reducible refine gd_ 1 rfl ?_); refine bx_ 1 rfl #[.int .i64 a0_0, .int .i64 a0_1, .int .i64 a0_2, .int .i64 a0_3, .int .i64 a0_4] 25 ?_; intro a1 hg w26 hbox hb; have a0 := yaa (hbox); have a2 := yaa ((by rw [hg]; exact (yae (upH HB.out)) : w.heap.size ≤ a1)); replace HB := yaa (yaf (upH HB.out) hb); have a3 := a2; clear hb hbox hg; obtain ⟨i2, i3, i4, i5, i6⟩ := cc5_ a0.out; obtain ⟨i7, i8, i9, j0⟩ := cf4_ a0.out; have j1 := yag a0.out 4) | ((with_reducible refine gc_ 64 rfl ?_); refine gl_ (some 29) rfl Tryd.func64 #[.int .i64 a0_1, .int .i64 1, .int .i64 6] ?_; (with_reducible refine (spec_l1In.calls a0_1 1 6 true _ A19.out).mono ?_); rintro e w' ⟨rfl, ⟨nd, rfl⟩⟩; refine ⟨_, rfl, ?_⟩) | (go_at_call 64; (with_reducible refine (spec_l1In.calls a0_2 1 6 true _ A21.out).mono ?_); rintro e w' ⟨rfl, ⟨nd, rfl⟩⟩))
      go_ret
      exact ⟨by first | rfl | (simp [*, errW_none, errW_some] <;> rfl), by repeat (with_reducible first | exact HB.out | apply yac | apply yab | apply yad | refine yah ?_ (Aside0.out ‹_›))⟩
    ·
     replace c22 := Bool.eq_false_iff.mpr c22
     subst c22
     rw [if_neg (show ¬ (false = true) by decide)] at H
     obtain rfl := Option.some.inj H
     go_enter Tryd.func35, Tryd.ntmps35
     go_wp2_with (first | ((with_reducible refine gd_ 1 rfl ?_); refine bx_ 1 rfl #[.int .i64 a0_0, .int .i64 a0_1, .int .i64 a0_2, .int .i64 a0_3, .int .i64 a0_4] 25 ?_; intro a1 hg w28 hbox hb; have a0 := yaa (hbox); have a2 := yaa ((by rw [hg]; exact (yae (upH HB.out)) : w.heap.size ≤ a1)); replace HB := yaa (yaf (upH HB.out) hb); have a3 := a2; clear hb hbox hg; obtain ⟨j2, j3, j4, j5, j6⟩ := cc5_ a0.out; obtain ⟨j7, j8, j9, k0⟩ := cf4_ a0.out; have k1 := yag a0.out 4) | ((with_reducible refine gc_ 64 rfl ?_); refine gl_ (some 29) rfl Tryd.func64 #[.int .i64 a0_1, .int .i64 1, .int .i64 6] ?_; (with_reducible refine (spec_l1In.calls a0_1 1 6 true _ A19.out).mono ?_); rintro e w' ⟨rfl, ⟨nd, rfl⟩⟩; refine ⟨_, rfl, ?_⟩) | (go_at_call 64; (with_reducible refine (spec_l1In.calls a0_2 1 6 false _ A21.out).mono ?_); rintro e w' ⟨rfl, ⟨nd, rfl⟩⟩))
     go_ret
     exact ⟨by first | rfl | (simp [*, errW_none, errW_some] <;> rfl), by repeat (with_reducible first | exact HB.out | apply yac | apply yab | apply yad | refine yah ?_ (Aside0.out ‹_›))⟩
   ·
    replace c20 := Bool.eq_false_iff.mpr c20
    subst c20
    rw [if_neg (show ¬ (false = true) by decide)] at H
    obtain rfl := Option.some.inj H
    go_enter Tryd.func35, Tryd.ntmps35
    go_wp2_with (first | ((with_reducible refine gd_ 1 rfl ?_); refine bx_ 1 rfl #[.int .i64 a0_0, .int .i64 a0_1, .int .i64 a0_2, .int .i64 a0_3, .int .i64 a0_4] 25 ?_; intro a1 hg w30 hbox hb; have a0 := yaa (hbox); have a2 := yaa ((by rw [hg]; exact (yae (upH HB.out)) : w.heap.size ≤ a1)); replace HB := yaa (yaf (upH HB.out) hb); have a3 := a2; clear hb hbox hg; obtain ⟨k2, k3, k4, k5, k6⟩ := cc5_ a0.out; obtain ⟨k7, k8, k9, l0⟩ := cf4_ a0.out; have l1 := yag a0.out 4) | ((with_reducible refine gc_ 64 rfl ?_); refine gl_ (some 29) rfl Tryd.func64 #[.int .i64 a0_1, .int .i64 1, .int .i64 6] ?_; (with_reducible refine (spec_l1In.calls a0_1 1 6 false _ A19.out).mono ?_); rintro e w' ⟨rfl, ⟨nd, rfl⟩⟩; refine ⟨_, rfl, ?_⟩))
    go_ret
    exact ⟨by first | rfl | (simp [*, errW_none, errW_some] <;> rfl), by repeat (with_reducible first | exact HB.out | apply yac | apply yab | apply yad | refine yah ?_ (Aside0.out ‹_›))⟩
  ·
   rw [if_neg c18] at H
   have b6 := beq_eq_false_iff_ne.mpr c18; have b7 := bne_iff_ne.mpr c18
   by_cases c32 : a0_0 = 8
   ·
    rw [if_pos c32] at H
    have c0 := beq_iff_eq.mpr c32; have c1 := bne_eq_false_iff_eq.mpr c32; clear c32; obtain ⟨b2, A33, H⟩ := bindA H; (try dsimp only at H)
    by_cases c34 : b2 = true
    ·
     subst c34
     rw [if_pos rfl] at H
     obtain ⟨b3, A35, H⟩ := bindA H; (try dsimp only at H)
     by_cases c36 : b3 = true
     ·
      subst c36
      rw [if_pos rfl] at H
      obtain ⟨b4, A37, H⟩ := bindA H; (try dsimp only at H)
      by_cases c38 : b4 = true
      ·
       subst c38
       rw [if_pos rfl] at H
       obtain rfl := Option.some.inj H
       go_enter Tryd.func35, Tryd.ntmps35
       go_wp2_with (first | ((with_reducible refine gd_ 1 rfl ?_); refine bx_ 1 rfl #[.int .i64 a0_0, .int .i64 a0_1, .int .i64 a0_2, .int .i64 a0_3, .int .i64 a0_4] 25 ?_; intro a1 hg w39 hbox hb; have a0 := yaa (hbox); have a2 := yaa ((by rw [hg]; exact (yae (upH HB.out)) : w.heap.size ≤ a1)); replace HB := yaa (yaf (upH HB.out) hb); have a3 := a2; clear hb hbox hg; obtain ⟨l2, l3, l4, l5, l6⟩ := cc5_ a0.out; obtain ⟨l7, l8, l9, m0⟩ := cf4_ a0.out; have m1 := yag a0.out 4) | ((with_reducible refine gc_ 64 rfl ?_); refine gl_ (some 49) rfl Tryd.func64 #[.int .i64 a0_1, .int .i64 0, .int .i64 255] ?_; (with_reducible refine (spec_l1In.calls a0_1 0 255 true _ A33.out).mono ?_); rintro e w' ⟨rfl, ⟨nd, rfl⟩⟩; refine ⟨_, rfl, ?_⟩) | (go_at_call 64; (with_reducible refine (spec_l1In.calls a0_2 0 255 true _ A35.out).mono ?_); rintro e w' ⟨rfl, ⟨nd, rfl⟩⟩) | (go_at_call 64; (with_reducible refine (spec_l1In.calls a0_3 0 255 true _ A37.out).mono ?_); rintro e w' ⟨rfl, ⟨nd, rfl⟩⟩))
       go_ret
       exact ⟨by first | rfl | (simp [*, errW_none, errW_some] <;> rfl), by repeat (with_reducible first | exact HB.out | apply yac | apply yab | apply yad | refine yah ?_ (Aside0.out ‹_›))⟩
      ·
       replace c38 := Bool.eq_false_iff.mpr c38
       subst c38
       rw [if_neg (show ¬ (false = true) by decide)] at H
       obtain rfl := Option.some.inj H
       go_enter Tryd.func35, Tryd.ntmps35
       go_wp2_with (first | ((with_reducible refine gd_ 1 rfl ?_); refine bx_ 1 rfl #[.int .i64 a0_0, .int .i64 a0_1, .int .i64 a0_2, .int .i64 a0_3, .int .i64 a0_4] 25 ?_; intro a1 hg w41 hbox hb; have a0 := yaa (hbox); have a2 := yaa ((by rw [hg]; exact (yae (upH HB.out)) : w.heap.size ≤ a1)); replace HB := yaa (yaf (upH HB.out) hb); have a3 := a2; clear hb hbox hg; obtain ⟨m2, m3, m4, m5, m6⟩ := cc5_ a0.out; obtain ⟨m7, m8, m9, n0⟩ := cf4_ a0.out; have n1 := yag a0.out 4) | ((with_reducible refine gc_ 64 rfl ?_); refine gl_ (some 49) rfl Tryd.func64 #[.int .i64 a0_1, .int .i64 0, .int .i64 255] ?_; (with_reducible refine (spec_l1In.calls a0_1 0 255 true _ A33.out).mono ?_); rintro e w' ⟨rfl, ⟨nd, rfl⟩⟩; refine ⟨_, rfl, ?_⟩) | (go_at_call 64; (with_reducible refine (spec_l1In.calls a0_2 0 255 true _ A35.out).mono ?_); rintro e w' ⟨rfl, ⟨nd, rfl⟩⟩) | (go_at_call 64; (with_reducible refine (spec_l1In.calls a0_3 0 255 false _ A37.out).mono ?_); rintro e w' ⟨rfl, ⟨nd, rfl⟩⟩))
       go_ret
       exact ⟨by first | rfl | (simp [*, errW_none, errW_some] <;> rfl), by repeat (with_reducible first | exact HB.out | apply yac | apply yab | apply yad | refine yah ?_ (Aside0.out ‹_›))⟩
     ·
      replace c36 := Bool.eq_false_iff.mpr c36
      subst c36
      rw [if_neg (show ¬ (false = true) by decide)] at H
      obtain rfl := Option.some.inj H
      go_enter Tryd.func35, Tryd.ntmps35
      go_wp2_with (first | ((with_reducible refine gd_ 1 rfl ?_); refine bx_ 1 rfl #[.int .i64 a0_0, .int .i64 a0_1, .int .i64 a0_2, .int .i64 a0_3, .int .i64 a0_4] 25 ?_; intro a1 hg w43 hbox hb; have a0 := yaa (hbox); have a2 := yaa ((by rw [hg]; exact (yae (upH HB.out)) : w.heap.size ≤ a1)); replace HB := yaa (yaf (upH HB.out) hb); have a3 := a2; clear hb hbox hg; obtain ⟨n2, n3, n4, n5, n6⟩ := cc5_ a0.out; obtain ⟨n7, n8, n9, o0⟩ := cf4_ a0.out; have o1 := yag a0.out 4) | ((with_reducible refine gc_ 64 rfl ?_); refine gl_ (some 49) rfl Tryd.func64 #[.int .i64 a0_1, .int .i64 0, .int .i64 255] ?_; (with_reducible refine (spec_l1In.calls a0_1 0 255 true _ A33.out).mono ?_); rintro e w' ⟨rfl, ⟨nd, rfl⟩⟩; refine ⟨_, rfl, ?_⟩) | (go_at_call 64; (with_reducible refine (spec_l1In.calls a0_2 0 255 false _ A35.out).mono ?_); rintro e w' ⟨rfl, ⟨nd, rfl⟩⟩))
      go_ret
      exact ⟨by first | rfl | (simp [*, errW_none, errW_some] <;> rfl), by repeat (with_reducible first | exact HB.out | apply yac | apply yab | apply yad | refine yah ?_ (Aside0.out ‹_›))⟩
    ·
     replace c34 := Bool.eq_false_iff.mpr c34
     subst c34
     rw [if_neg (show ¬ (false = true) by decide)] at H
     obtain rfl := Option.some.inj H
     go_enter Tryd.func35, Tryd.ntmps35
     go_wp2_with (first | ((with_reducible refine gd_ 1 rfl ?_); refine bx_ 1 rfl #[.int .i64 a0_0, .int .i64 a0_1, .int .i64 a0_2, .int .i64 a0_3, .int .i64 a0_4] 25 ?_; intro a1 hg w45 hbox hb; have a0 := yaa (hbox); have a2 := yaa ((by rw [hg]; exact (yae (upH HB.out)) : w.heap.size ≤ a1)); replace HB := yaa (yaf (upH HB.out) hb); have a3 := a2; clear hb hbox hg; obtain ⟨o2, o3, o4, o5, o6⟩ := cc5_ a0.out; obtain ⟨o7, o8, o9, p0⟩ := cf4_ a0.out; have p1 := yag a0.out 4) | ((with_reducible refine gc_ 64 rfl ?_); refine gl_ (some 49) rfl Tryd.func64 #[.int .i64 a0_1, .int .i64 0, .int .i64 255] ?_; (with_reducible refine (spec_l1In.calls a0_1 0 255 false _ A33.out).mono ?_); rintro e w' ⟨rfl, ⟨nd, rfl⟩⟩; refine ⟨_, rfl, ?_⟩))
     go_ret
     exact ⟨by first | rfl | (simp [*, errW_none, errW_some] <;> rfl), by repeat (with_reducible first | exact HB.out | apply yac | apply yab | apply yad | refine yah ?_ (Aside0.out ‹_›))⟩
   ·
    rw [if_neg c32] at H
    have c0 := beq_eq_false_iff_ne.mpr c32; have c1 := bne_iff_ne.mpr c32; obtain ⟨b5, A47, H⟩ := bindA H; (try dsimp only at H)
    by_cases c48 : b5 = true
    ·
     subst c48
     rw [if_pos rfl] at H
     by_cases c49 : a0_1 = 0
     ·
      rw [if_pos c49] at H
      have c3 := beq_iff_eq.mpr c49; have c5 := bne_eq_false_iff_eq.mpr c49; clear c49
      by_cases c50 : a0_2 = 0
      ·
       rw [if_pos c50] at H
       have c7 := beq_iff_eq.mpr c50; have c9 := bne_eq_false_iff_eq.mpr c50; clear c50
       by_cases c51 : a0_3 = 0
       ·
        rw [if_pos c51] at H
        have d0 := beq_iff_eq.mpr c51; have d1 := bne_eq_false_iff_eq.mpr c51; clear c51; obtain rfl := Option.some.inj H
        go_enter Tryd.func35, Tryd.ntmps35
        go_wp2_with (first | ((with_reducible refine gd_ 1 rfl ?_); refine bx_ 1 rfl #[.int .i64 a0_0, .int .i64 a0_1, .int .i64 a0_2, .int .i64 a0_3, .int .i64 a0_4] 25 ?_; intro a1 hg w52 hbox hb; have a0 := yaa (hbox); have a2 := yaa ((by rw [hg]; exact (yae (upH HB.out)) : w.heap.size ≤ a1)); replace HB := yaa (yaf (upH HB.out) hb); have a3 := a2; clear hb hbox hg; obtain ⟨p2, p3, p4, p5, p6⟩ := cc5_ a0.out; obtain ⟨p7, p8, p9, q0⟩ := cf4_ a0.out; have q1 := yag a0.out 4) | ((with_reducible refine gc_ 64 rfl ?_); refine gl_ (some 67) rfl Tryd.func64 #[.int .i64 a0_0, .int .i64 2, .int .i64 6] ?_; (with_reducible refine (spec_l1In.calls a0_0 2 6 true _ A47.out).mono ?_); rintro e w' ⟨rfl, ⟨nd, rfl⟩⟩; refine ⟨_, rfl, ?_⟩))
        go_ret
        exact ⟨by first | rfl | (simp [*, errW_none, errW_some] <;> rfl), by repeat (with_reducible first | exact HB.out | apply yac | apply yab | apply yad | refine yah ?_ (Aside0.out ‹_›))⟩
       ·
        rw [if_neg c51] at H
        have d0 := beq_eq_false_iff_ne.mpr c51; have d1 := bne_iff_ne.mpr c51; obtain rfl := Option.some.inj H
        go_enter Tryd.func35, Tryd.ntmps35
        go_wp2_with (first | ((with_reducible refine gd_ 1 rfl ?_); refine bx_ 1 rfl #[.int .i64 a0_0, .int .i64 a0_1, .int .i64 a0_2, .int .i64 a0_3, .int .i64 a0_4] 25 ?_; intro a1 hg w54 hbox hb; have a0 := yaa (hbox); have a2 := yaa ((by rw [hg]; exact (yae (upH HB.out)) : w.heap.size ≤ a1)); replace HB := yaa (yaf (upH HB.out) hb); have a3 := a2; clear hb hbox hg; obtain ⟨q2, q3, q4, q5, q6⟩ := cc5_ a0.out; obtain ⟨q7, q8, q9, r0⟩ := cf4_ a0.out; have r1 := yag a0.out 4) | ((with_reducible refine gc_ 64 rfl ?_); refine gl_ (some 67) rfl Tryd.func64 #[.int .i64 a0_0, .int .i64 2, .int .i64 6] ?_; (with_reducible refine (spec_l1In.calls a0_0 2 6 true _ A47.out).mono ?_); rintro e w' ⟨rfl, ⟨nd, rfl⟩⟩; refine ⟨_, rfl, ?_⟩))
        go_ret
        exact ⟨by first | rfl | (simp [*, errW_none, errW_some] <;> rfl), by repeat (with_reducible first | exact HB.out | apply yac | apply yab | apply yad | refine yah ?_ (Aside0.out ‹_›))⟩
      ·
       rw [if_neg c50] at H
       have c7 := beq_eq_false_iff_ne.mpr c50; have c9 := bne_iff_ne.mpr c50; obtain rfl := Option.some.inj H
       go_enter Tryd.func35, Tryd.ntmps35
       go_wp2_with (first | ((with_reducible refine gd_ 1 rfl ?_); refine bx_ 1 rfl #[.int .i64 a0_0, .int .i64 a0_1, .int .i64 a0_2, .int .i64 a0_3, .int .i64 a0_4] 25 ?_; intro a1 hg w56 hbox hb; have a0 := yaa (hbox); have a2 := yaa ((by rw [hg]; exact (yae (upH HB.out)) : w.heap.size ≤ a1)); replace HB := yaa (yaf (upH HB.out) hb); have a3 := a2; clear hb hbox hg; obtain ⟨r2, r3, r4, r5, r6⟩ := cc5_ a0.out; obtain ⟨r7, r8, r9, s0⟩ := cf4_ a0.out; have s1 := yag a0.out 4) | ((with_reducible refine gc_ 64 rfl ?_); refine gl_ (some 67) rfl Tryd.func64 #[.int .i64 a0_0, .int .i64 2, .int .i64 6] ?_; (with_reducible refine (spec_l1In.calls a0_0 2 6 true _ A47.out).mono ?_); rintro e w' ⟨rfl, ⟨nd, rfl⟩⟩; refine ⟨_, rfl, ?_⟩))
       go_ret
       exact ⟨by first | rfl | (simp [*, errW_none, errW_some] <;> rfl), by repeat (with_reducible first | exact HB.out | apply yac | apply yab | apply yad | refine yah ?_ (Aside0.out ‹_›))⟩
     ·
      rw [if_neg c49] at H
      have c3 := beq_eq_false_iff_ne.mpr c49; have c5 := bne_iff_ne.mpr c49; obtain rfl := Option.some.inj H
      go_enter Tryd.func35, Tryd.ntmps35
      go_wp2_with (first | ((with_reducible refine gd_ 1 rfl ?_); refine bx_ 1 rfl #[.int .i64 a0_0, .int .i64 a0_1, .int .i64 a0_2, .int .i64 a0_3, .int .i64 a0_4] 25 ?_; intro a1 hg w58 hbox hb; have a0 := yaa (hbox); have a2 := yaa ((by rw [hg]; exact (yae (upH HB.out)) : w.heap.size ≤ a1)); replace HB := yaa (yaf (upH HB.out) hb); have a3 := a2; clear hb hbox hg; obtain ⟨s2, s3, s4, s5, s6⟩ := cc5_ a0.out; obtain ⟨s7, s8, s9, t0⟩ := cf4_ a0.out; have t1 := yag a0.out 4) | ((with_reducible refine gc_ 64 rfl ?_); refine gl_ (some 67) rfl Tryd.func64 #[.int .i64 a0_0, .int .i64 2, .int .i64 6] ?_; (with_reducible refine (spec_l1In.calls a0_0 2 6 true _ A47.out).mono ?_); rintro e w' ⟨rfl, ⟨nd, rfl⟩⟩; refine ⟨_, rfl, ?_⟩))
      go_ret
      exact ⟨by first | rfl | (simp [*, errW_none, errW_some] <;> rfl), by repeat (with_reducible first | exact HB.out | apply yac | apply yab | apply yad | refine yah ?_ (Aside0.out ‹_›))⟩
    ·
     replace c48 := Bool.eq_false_iff.mpr c48
     subst c48
     rw [if_neg (show ¬ (false = true) by decide)] at H
     obtain rfl := Option.some.inj H
     go_enter Tryd.func35, Tryd.ntmps35
     go_wp2_with (first | ((with_reducible refine gd_ 1 rfl ?_); refine bx_ 1 rfl #[.int .i64 a0_0, .int .i64 a0_1, .int .i64 a0_2, .int .i64 a0_3, .int .i64 a0_4] 25 ?_; intro a1 hg w60 hbox hb; have a0 := yaa (hbox); have a2 := yaa ((by rw [hg]; exact (yae (upH HB.out)) : w.heap.size ≤ a1)); replace HB := yaa (yaf (upH HB.out) hb); have a3 := a2; clear hb hbox hg; obtain ⟨t2, t3, t4, t5, t6⟩ := cc5_ a0.out; obtain ⟨t7, t8, t9, u0⟩ := cf4_ a0.out; have u1 := yag a0.out 4) | ((with_reducible refine gc_ 64 rfl ?_); refine gl_ (some 67) rfl Tryd.func64 #[.int .i64 a0_0, .int .i64 2, .int .i64 6] ?_; (with_reducible refine (spec_l1In.calls a0_0 2 6 false _ A47.out).mono ?_); rintro e w' ⟨rfl, ⟨nd, rfl⟩⟩; refine ⟨_, rfl, ?_⟩))
     go_ret
     exact ⟨by first | rfl | (simp [*, errW_none, errW_some] <;> rfl), by repeat (with_reducible first | exact HB.out | apply yac | apply yab | apply yad | refine yah ?_ (Aside0.out ‹_›))⟩
end
section
open Go.Proofs.YtiihhjfdgojkeaaDoorW.PrintWords.Reps renaming one → yaa
open Go.Proofs.YtiihhjfdgojkeaaDoorW.PrintWords.Kd renaming string → yab
open Go.Proofs.YtiihhjfdgojkeaaDoorW.PrintWords.Aside0 renaming mk → yac

def spec_l7Word.f (a0 : Int) : Option (ByteArray × Int) := (some (([(⟨#[]⟩ : ByteArray), (⟨#[99, 114, 111, 112]⟩ : ByteArray), (⟨#[102, 108, 105, 112, 120]⟩ : ByteArray), (⟨#[102, 108, 105, 112, 121]⟩ : ByteArray), (⟨#[116, 117, 114, 110]⟩ : ByteArray), (⟨#[103, 114, 97, 121]⟩ : ByteArray), (⟨#[98, 108, 117, 114]⟩ : ByteArray), (⟨#[115, 105, 122, 101]⟩ : ByteArray), (⟨#[102, 108, 97, 116]⟩ : ByteArray)] : List ByteArray) : List ByteArray)).bind fun y101 => ((some (([0, 4, 0, 0, 0, 0, 0, 2, 3] : List Int) : List Int)).bind fun y104 => (if 0 ≤ a0 then (if a0 < (y101.length : Int) then (if a0 < (y104.length : Int) then (some (rdOf ByteArray.empty y101 a0, rd y104 a0)) else (none)) else (none)) else (none)))
set_option maxHeartbeats 8000000 in
set_option maxRecDepth 100000 in
theorem spec_l7Word.calls (a0 : Int) (r1 : ByteArray) (r2 : Int) (w : World) (h : spec_l7Word.f a0 = some (r1, r2)) :
  Calls Tryd.prog 51 #[.int .i64 a0] w fun e w' => e = .returned (.tuple #[.string r1, .int .i64 r2]) ∧ Below w.heap.size w w' := by
 have HB := yac (Below.refl w.heap.size w); have H : ((some (([(⟨#[]⟩ : ByteArray), (⟨#[99, 114, 111, 112]⟩ : ByteArray), (⟨#[102, 108, 105, 112, 120]⟩ : ByteArray), (⟨#[102, 108, 105, 112, 121]⟩ : ByteArray), (⟨#[116, 117, 114, 110]⟩ : ByteArray), (⟨#[103, 114, 97, 121]⟩ : ByteArray), (⟨#[98, 108, 117, 114]⟩ : ByteArray), (⟨#[115, 105, 122, 101]⟩ : ByteArray), (⟨#[102, 108, 97, 116]⟩ : ByteArray)] : List ByteArray) : List ByteArray)).bind fun y101 => ((some (([0, 4, 0, 0, 0, 0, 0, 2, 3] : List Int) : List Int)).bind fun y104 => (if 0 ≤ a0 then (if a0 < (y101.length : Int) then (if a0 < (y104.length : Int) then (some (rdOf ByteArray.empty y101 a0, rd y104 a0)) else (none)) else (none)) else (none)))) = some (r1, r2) := h; clear h; obtain ⟨y101, hy101, H⟩ := bindY H; (try dsimp only at H); have Ny101 := yac hy101; clear hy101; obtain ⟨y104, hy104, H⟩ := bindY H; (try dsimp only at H); have Ny104 := yac hy104; clear hy104
 by_cases c2 : 0 ≤ a0
 ·
  rw [if_pos c2] at H
  replace c2 := decide_eq_true c2
  by_cases c3 : a0 < (y101.length : Int)
  ·
   rw [if_pos c3] at H
   replace c3 := decide_eq_true c3
   by_cases c4 : a0 < (y104.length : Int)
   ·
    rw [if_pos c4] at H
    replace c4 := decide_eq_true c4
    simp only [Option.some.injEq, Prod.mk.injEq] at H
    obtain ⟨rfl, rfl⟩ := H
    go_enter Tryd.func51, Tryd.ntmps51
    go_wp2_with (first | ((with_reducible refine gd_ 6 rfl ?_); refine Kd.R_lit yab _ 9 ?hg (N := 6) ?hd (xs := ([(⟨#[]⟩ : ByteArray), (⟨#[99, 114, 111, 112]⟩ : ByteArray), (⟨#[102, 108, 105, 112, 120]⟩ : ByteArray), (⟨#[102, 108, 105, 112, 121]⟩ : ByteArray), (⟨#[116, 117, 114, 110]⟩ : ByteArray), (⟨#[103, 114, 97, 121]⟩ : ByteArray), (⟨#[98, 108, 117, 114]⟩ : ByteArray), (⟨#[115, 105, 122, 101]⟩ : ByteArray), (⟨#[102, 108, 97, 116]⟩ : ByteArray)] : List ByteArray)) (inner := [.string (⟨#[]⟩ : ByteArray), .string (⟨#[99, 114, 111, 112]⟩ : ByteArray), .string (⟨#[102, 108, 105, 112, 120]⟩ : ByteArray), .string (⟨#[102, 108, 105, 112, 121]⟩ : ByteArray), .string (⟨#[116, 117, 114, 110]⟩ : ByteArray), .string (⟨#[103, 114, 97, 121]⟩ : ByteArray), .string (⟨#[98, 108, 117, 114]⟩ : ByteArray), .string (⟨#[115, 105, 122, 101]⟩ : ByteArray), .string (⟨#[102, 108, 97, 116]⟩ : ByteArray)]) (ok := fun _ => True) (okp := fun _ => True) ?hr ?hp (fun _ hk => hk) trivial (Below.refl _ _) (Nat.le_refl _) (by simp) ?_; (case hd => rfl); (case hg => rfl); (case hr => first | (go_simp; done) | (go_simp; rfl)); (case hp => exact (yaa (show Kd.M yab _ _ _ (⟨#[]⟩ : ByteArray) [.string (⟨#[]⟩ : ByteArray)] from rfl) (yaa (show Kd.M yab _ _ _ (⟨#[99, 114, 111, 112]⟩ : ByteArray) [.string (⟨#[99, 114, 111, 112]⟩ : ByteArray)] from rfl) (yaa (show Kd.M yab _ _ _ (⟨#[102, 108, 105, 112, 120]⟩ : ByteArray) [.string (⟨#[102, 108, 105, 112, 120]⟩ : ByteArray)] from rfl) (yaa (show Kd.M yab _ _ _ (⟨#[102, 108, 105, 112, 121]⟩ : ByteArray) [.string (⟨#[102, 108, 105, 112, 121]⟩ : ByteArray)] from rfl) (yaa (show Kd.M yab _ _ _ (⟨#[116, 117, 114, 110]⟩ : ByteArray) [.string (⟨#[116, 117, 114, 110]⟩ : ByteArray)] from rfl) (yaa (show Kd.M yab _ _ _ (⟨#[103, 114, 97, 121]⟩ : ByteArray) [.string (⟨#[103, 114, 97, 121]⟩ : ByteArray)] from rfl) (yaa (show Kd.M yab _ _ _ (⟨#[98, 108, 117, 114]⟩ : ByteArray) [.string (⟨#[98, 108, 117, 114]⟩ : ByteArray)] from rfl) (yaa (show Kd.M yab _ _ _ (⟨#[115, 105, 122, 101]⟩ : ByteArray) [.string (⟨#[115, 105, 122, 101]⟩ : ByteArray)] from rfl) (yaa (show Kd.M yab _ _ _ (⟨#[102, 108, 97, 116]⟩ : ByteArray) [.string (⟨#[102, 108, 97, 116]⟩ : ByteArray)] from rfl) (Reps.none _ _))))))))))); intro a8 w5 ho6 hb hg_ hnew_; clear hg_ hnew_; (first | rw [← Ny101.out] at ho6 | (simp only [Int.reduceToNat] at ho6; rw [← Ny101.out] at ho6)); have a1 := yac (Kd.R_lower ho6 (below_size (upH HB.out))); replace HB := yac (below_step (upH HB.out) hb); clear hb ho6) | ((with_reducible refine gd_ 7 rfl ?_); refine Kd.R_lit (Kd.int .i64) _ 3 ?hg (N := 7) ?hd (xs := ([0, 4, 0, 0, 0, 0, 0, 2, 3] : List Int)) (inner := [.int .i64 0, .int .i64 4, .int .i64 0, .int .i64 0, .int .i64 0, .int .i64 0, .int .i64 0, .int .i64 2, .int .i64 3]) (ok := fun _ => True) (okp := fun _ => True) ?hr ?hp (fun _ hk => hk) trivial (Below.refl _ _) (Nat.le_refl _) (by simp) ?_; (case hd => rfl); (case hg => rfl); (case hr => first | (go_simp; done) | (go_simp; rfl)); (case hp => exact (yaa (show Kd.M (Kd.int .i64) _ _ _ 0 [.int .i64 0] from rfl) (yaa (show Kd.M (Kd.int .i64) _ _ _ 4 [.int .i64 4] from rfl) (yaa (show Kd.M (Kd.int .i64) _ _ _ 0 [.int .i64 0] from rfl) (yaa (show Kd.M (Kd.int .i64) _ _ _ 0 [.int .i64 0] from rfl) (yaa (show Kd.M (Kd.int .i64) _ _ _ 0 [.int .i64 0] from rfl) (yaa (show Kd.M (Kd.int .i64) _ _ _ 0 [.int .i64 0] from rfl) (yaa (show Kd.M (Kd.int .i64) _ _ _ 0 [.int .i64 0] from rfl) (yaa (show Kd.M (Kd.int .i64) _ _ _ 2 [.int .i64 2] from rfl) (yaa (show Kd.M (Kd.int .i64) _ _ _ 3 [.int .i64 3] from rfl) (Reps.none _ _))))))))))); intro a9 w7 ho8 hb hg_ hnew_; clear hg_ hnew_; (first | rw [← Ny104.out] at ho8 | (simp only [Int.reduceToNat] at ho8; rw [← Ny104.out] at ho8)); replace a1 := yac (Kd.R_below (upR a1.out) hb); have a2 := yac (Kd.R_lower ho8 (below_size (upH HB.out))); replace HB := yac (below_step (upH HB.out) hb); clear hb ho8; obtain ⟨Ao9, co9, eo9⟩ := Kd.R_slice a1.out; subst eo9; have p107 : 0 ≤ (a0 : Int) := of_decide_eq_true (by assumption); have q107 : a0 < (y101.length : Int) := of_decide_eq_true (by assumption); obtain ⟨ad107, a5, a3⟩ := Kd.at_string (Kd.R_reads' a1.out).2.2 a0 p107 q107; cases a5; replace p107 := eq_true p107; replace q107 := eq_true q107; obtain ⟨b0, b1, a6⟩ := Kd.R_slice a2.out; subst a6; have p108 : 0 ≤ (a0 : Int) := of_decide_eq_true (by assumption); have q108 : a0 < (y104.length : Int) := of_decide_eq_true (by assumption); obtain ⟨ad108, a7, a4⟩ := Kd.at_int (Kd.R_reads' a2.out).2.2 a0 p108 q108; cases a7; replace p108 := eq_true p108; replace q108 := eq_true q108))
    repeat (go_quiet (first | ((with_reducible refine gd_ 6 rfl ?_); refine Kd.R_lit yab _ 9 ?hg (N := 6) ?hd (xs := ([(⟨#[]⟩ : ByteArray), (⟨#[99, 114, 111, 112]⟩ : ByteArray), (⟨#[102, 108, 105, 112, 120]⟩ : ByteArray), (⟨#[102, 108, 105, 112, 121]⟩ : ByteArray), (⟨#[116, 117, 114, 110]⟩ : ByteArray), (⟨#[103, 114, 97, 121]⟩ : ByteArray), (⟨#[98, 108, 117, 114]⟩ : ByteArray), (⟨#[115, 105, 122, 101]⟩ : ByteArray), (⟨#[102, 108, 97, 116]⟩ : ByteArray)] : List ByteArray)) (inner := [.string (⟨#[]⟩ : ByteArray), .string (⟨#[99, 114, 111, 112]⟩ : ByteArray), .string (⟨#[102, 108, 105, 112, 120]⟩ : ByteArray), .string (⟨#[102, 108, 105, 112, 121]⟩ : ByteArray), .string (⟨#[116, 117, 114, 110]⟩ : ByteArray), .string (⟨#[103, 114, 97, 121]⟩ : ByteArray), .string (⟨#[98, 108, 117, 114]⟩ : ByteArray), .string (⟨#[115, 105, 122, 101]⟩ : ByteArray), .string (⟨#[102, 108, 97, 116]⟩ : ByteArray)]) (ok := fun _ => True) (okp := fun _ => True) ?hr ?hp (fun _ hk => hk) trivial (Below.refl _ _) (Nat.le_refl _) (by simp) ?_; (case hd => rfl); (case hg => rfl); (case hr => first | (go_simp; done) | (go_simp; rfl)); (case hp => exact (yaa (show Kd.M yab _ _ _ (⟨#[]⟩ : ByteArray) [.string (⟨#[]⟩ : ByteArray)] from rfl) (yaa (show Kd.M yab _ _ _ (⟨#[99, 114, 111, 112]⟩ : ByteArray) [.string (⟨#[99, 114, 111, 112]⟩ : ByteArray)] from rfl) (yaa (show Kd.M yab _ _ _ (⟨#[102, 108, 105, 112, 120]⟩ : ByteArray) [.string (⟨#[102, 108, 105, 112, 120]⟩ : ByteArray)] from rfl) (yaa (show Kd.M yab _ _ _ (⟨#[102, 108, 105, 112, 121]⟩ : ByteArray) [.string (⟨#[102, 108, 105, 112, 121]⟩ : ByteArray)] from rfl) (yaa (show Kd.M yab _ _ _ (⟨#[116, 117, 114, 110]⟩ : ByteArray) [.string (⟨#[116, 117, 114, 110]⟩ : ByteArray)] from rfl) (yaa (show Kd.M yab _ _ _ (⟨#[103, 114, 97, 121]⟩ : ByteArray) [.string (⟨#[103, 114, 97, 121]⟩ : ByteArray)] from rfl) (yaa (show Kd.M yab _ _ _ (⟨#[98, 108, 117, 114]⟩ : ByteArray) [.string (⟨#[98, 108, 117, 114]⟩ : ByteArray)] from rfl) (yaa (show Kd.M yab _ _ _ (⟨#[115, 105, 122, 101]⟩ : ByteArray) [.string (⟨#[115, 105, 122, 101]⟩ : ByteArray)] from rfl) (yaa (show Kd.M yab _ _ _ (⟨#[102, 108, 97, 116]⟩ : ByteArray) [.string (⟨#[102, 108, 97, 116]⟩ : ByteArray)] from rfl) (Reps.none _ _))))))))))); intro a8 w5 ho6 hb hg_ hnew_; clear hg_ hnew_; (first | rw [← Ny101.out] at ho6 | (simp only [Int.reduceToNat] at ho6; rw [← Ny101.out] at ho6)); have a1 := yac (Kd.R_lower ho6 (below_size (upH HB.out))); replace HB := yac (below_step (upH HB.out) hb); clear hb ho6) | ((with_reducible refine gd_ 7 rfl ?_); refine Kd.R_lit (Kd.int .i64) _ 3 ?hg (N := 7) ?hd (xs := ([0, 4, 0, 0, 0, 0, 0, 2, 3] : List Int)) (inner := [.int .i64 0, .int .i64 4, .int .i64 0, .int .i64 0, .int .i64 0, .int .i64 0, .int .i64 0, .int .i64 2, .int .i64 3]) (ok := fun _ => True) (okp := fun _ => True) ?hr ?hp (fun _ hk => hk) trivial (Below.refl _ _) (Nat.le_refl _) (by simp) ?_; (case hd => rfl); (case hg => rfl); (case hr => first | (go_simp; done) | (go_simp; rfl)); (case hp => exact (yaa (show Kd.M (Kd.int .i64) _ _ _ 0 [.int .i64 0] from rfl) (yaa (show Kd.M (Kd.int .i64) _ _ _ 4 [.int .i64 4] from rfl) (yaa (show Kd.M (Kd.int .i64) _ _ _ 0 [.int .i64 0] from rfl) (yaa (show Kd.M (Kd.int .i64) _ _ _ 0 [.int .i64 0] from rfl) (yaa (show Kd.M (Kd.int .i64) _ _ _ 0 [.int .i64 0] from rfl) (yaa (show Kd.M (Kd.int .i64) _ _ _ 0 [.int .i64 0] from rfl) (yaa (show Kd.M (Kd.int .i64) _ _ _ 0 [.int .i64 0] from rfl) (yaa (show Kd.M (Kd.int .i64) _ _ _ 2 [.int .i64 2] from rfl) (yaa (show Kd.M (Kd.int .i64) _ _ _ 3 [.int .i64 3] from rfl) (Reps.none _ _))))))))))); intro a9 w7 ho8 hb hg_ hnew_; clear hg_ hnew_; (first | rw [← Ny104.out] at ho8 | (simp only [Int.reduceToNat] at ho8; rw [← Ny104.out] at ho8)); replace a1 := yac (Kd.R_below (upR a1.out) hb); have a2 := yac (Kd.R_lower ho8 (below_size (upH HB.out))); replace HB := yac (below_step (upH HB.out) hb); clear hb ho8; obtain ⟨Ao9, co9, eo9⟩ := Kd.R_slice a1.out; subst eo9; have p107 : 0 ≤ (a0 : Int) := of_decide_eq_true (by assumption); have q107 : a0 < (y101.length : Int) := of_decide_eq_true (by assumption); obtain ⟨ad107, a5, a3⟩ := Kd.at_string (Kd.R_reads' a1.out).2.2 a0 p107 q107; cases a5; replace p107 := eq_true p107; replace q107 := eq_true q107; obtain ⟨b0, b1, a6⟩ := Kd.R_slice a2.out; subst a6; have p108 : 0 ≤ (a0 : Int) := of_decide_eq_true (by assumption); have q108 : a0 < (y104.length : Int) := of_decide_eq_true (by assumption); obtain ⟨ad108, a7, a4⟩ := Kd.at_int (Kd.R_reads' a2.out).2.2 a0 p108 q108; cases a7; replace p108 := eq_true p108; replace q108 := eq_true q108)); try go_wp2_with (first | ((with_reducible refine gd_ 6 rfl ?_); refine Kd.R_lit yab _ 9 ?hg (N := 6) ?hd (xs := ([(⟨#[]⟩ : ByteArray), (⟨#[99, 114, 111, 112]⟩ : ByteArray), (⟨#[102, 108, 105, 112, 120]⟩ : ByteArray), (⟨#[102, 108, 105, 112, 121]⟩ : ByteArray), (⟨#[116, 117, 114, 110]⟩ : ByteArray), (⟨#[103, 114, 97, 121]⟩ : ByteArray), (⟨#[98, 108, 117, 114]⟩ : ByteArray), (⟨#[115, 105, 122, 101]⟩ : ByteArray), (⟨#[102, 108, 97, 116]⟩ : ByteArray)] : List ByteArray)) (inner := [.string (⟨#[]⟩ : ByteArray), .string (⟨#[99, 114, 111, 112]⟩ : ByteArray), .string (⟨#[102, 108, 105, 112, 120]⟩ : ByteArray), .string (⟨#[102, 108, 105, 112, 121]⟩ : ByteArray), .string (⟨#[116, 117, 114, 110]⟩ : ByteArray), .string (⟨#[103, 114, 97, 121]⟩ : ByteArray), .string (⟨#[98, 108, 117, 114]⟩ : ByteArray), .string (⟨#[115, 105, 122, 101]⟩ : ByteArray), .string (⟨#[102, 108, 97, 116]⟩ : ByteArray)]) (ok := fun _ => True) (okp := fun _ => True) ?hr ?hp (fun _ hk => hk) trivial (Below.refl _ _) (Nat.le_refl _) (by simp) ?_; (case hd => rfl); (case hg => rfl); (case hr => first | (go_simp; done) | (go_simp; rfl)); (case hp => exact (yaa (show Kd.M yab _ _ _ (⟨#[]⟩ : ByteArray) [.string (⟨#[]⟩ : ByteArray)] from rfl) (yaa (show Kd.M yab _ _ _ (⟨#[99, 114, 111, 112]⟩ : ByteArray) [.string (⟨#[99, 114, 111, 112]⟩ : ByteArray)] from rfl) (yaa (show Kd.M yab _ _ _ (⟨#[102, 108, 105, 112, 120]⟩ : ByteArray) [.string (⟨#[102, 108, 105, 112, 120]⟩ : ByteArray)] from rfl) (yaa (show Kd.M yab _ _ _ (⟨#[102, 108, 105, 112, 121]⟩ : ByteArray) [.string (⟨#[102, 108, 105, 112, 121]⟩ : ByteArray)] from rfl) (yaa (show Kd.M yab _ _ _ (⟨#[116, 117, 114, 110]⟩ : ByteArray) [.string (⟨#[116, 117, 114, 110]⟩ : ByteArray)] from rfl) (yaa (show Kd.M yab _ _ _ (⟨#[103, 114, 97, 121]⟩ : ByteArray) [.string (⟨#[103, 114, 97, 121]⟩ : ByteArray)] from rfl) (yaa (show Kd.M yab _ _ _ (⟨#[98, 108, 117, 114]⟩ : ByteArray) [.string (⟨#[98, 108, 117, 114]⟩ : ByteArray)] from rfl) (yaa (show Kd.M yab _ _ _ (⟨#[115, 105, 122, 101]⟩ : ByteArray) [.string (⟨#[115, 105, 122, 101]⟩ : ByteArray)] from rfl) (yaa (show Kd.M yab _ _ _ (⟨#[102, 108, 97, 116]⟩ : ByteArray) [.string (⟨#[102, 108, 97, 116]⟩ : ByteArray)] from rfl) (Reps.none _ _))))))))))); intro a8 w5 ho6 hb hg_ hnew_; clear hg_ hnew_; (first | rw [← Ny101.out] at ho6 | (simp only [Int.reduceToNat] at ho6; rw [← Ny101.out] at ho6)); have a1 := yac (Kd.R_lower ho6 (below_size (upH HB.out))); replace HB := yac (below_step (upH HB.out) hb); clear hb ho6) | ((with_reducible refine gd_ 7 rfl ?_); refine Kd.R_lit (Kd.int .i64) _ 3 ?hg (N := 7) ?hd (xs := ([0, 4, 0, 0, 0, 0, 0, 2, 3] : List Int)) (inner := [.int .i64 0, .int .i64 4, .int .i64 0, .int .i64 0, .int .i64 0, .int .i64 0, .int .i64 0, .int .i64 2, .int .i64 3]) (ok := fun _ => True) (okp := fun _ => True) ?hr ?hp (fun _ hk => hk) trivial (Below.refl _ _) (Nat.le_refl _) (by simp) ?_; (case hd => rfl); (case hg => rfl); (case hr => first | (go_simp; done) | (go_simp; rfl)); (case hp => exact (yaa (show Kd.M (Kd.int .i64) _ _ _ 0 [.int .i64 0] from rfl) (yaa (show Kd.M (Kd.int .i64) _ _ _ 4 [.int .i64 4] from rfl) (yaa (show Kd.M (Kd.int .i64) _ _ _ 0 [.int .i64 0] from rfl) (yaa (show Kd.M (Kd.int .i64) _ _ _ 0 [.int .i64 0] from rfl) (yaa (show Kd.M (Kd.int .i64) _ _ _ 0 [.int .i64 0] from rfl) (yaa (show Kd.M (Kd.int .i64) _ _ _ 0 [.int .i64 0] from rfl) (yaa (show Kd.M (Kd.int .i64) _ _ _ 0 [.int .i64 0] from rfl) (yaa (show Kd.M (Kd.int .i64) _ _ _ 2 [.int .i64 2] from rfl) (yaa (show Kd.M (Kd.int .i64) _ _ _ 3 [.int .i64 3] from rfl) (Reps.none _ _))))))))))); intro a9 w7 ho8 hb hg_ hnew_; clear hg_ hnew_; (first | rw [← Ny104.out] at ho8 | (simp only [Int.reduceToNat] at ho8; rw [← Ny104.out] at ho8)); replace a1 := yac (Kd.R_below (upR a1.out) hb); have a2 := yac (Kd.R_lower ho8 (below_size (upH HB.out))); replace HB := yac (below_step (upH HB.out) hb); clear hb ho8; obtain ⟨Ao9, co9, eo9⟩ := Kd.R_slice a1.out; subst eo9; have p107 : 0 ≤ (a0 : Int) := of_decide_eq_true (by assumption); have q107 : a0 < (y101.length : Int) := of_decide_eq_true (by assumption); obtain ⟨ad107, a5, a3⟩ := Kd.at_string (Kd.R_reads' a1.out).2.2 a0 p107 q107; cases a5; replace p107 := eq_true p107; replace q107 := eq_true q107; obtain ⟨b0, b1, a6⟩ := Kd.R_slice a2.out; subst a6; have p108 : 0 ≤ (a0 : Int) := of_decide_eq_true (by assumption); have q108 : a0 < (y104.length : Int) := of_decide_eq_true (by assumption); obtain ⟨ad108, a7, a4⟩ := Kd.at_int (Kd.R_reads' a2.out).2.2 a0 p108 q108; cases a7; replace p108 := eq_true p108; replace q108 := eq_true q108)))
    go_ret2
    exact ⟨by first | rfl | (simp [*, errW_none, errW_some] <;> rfl), upH HB.out⟩
   ·
    rw [if_neg c4] at H
    exact absurd H (by simp)
  ·
   rw [if_neg c3] at H
   exact absurd H (by simp)
 ·
  rw [if_neg c2] at H
  exact absurd H (by simp)
end
section
def spec_l7Plain.l0 : Nat → Int → ByteArray → Option (ByteArray)
 | 0, _, _ => none
 | k + 1, x0, x3 => if x0 > 9 then ((some (([(wrap64 (48 + (Int.tmod x0 10))) % 256] : List Int) : List Int)).bind fun y101 => (if (strOfNums y101).size + x3.size ≤ 9223372036854775807 then (spec_l7Plain.l0 k (wrap64 (Int.tdiv x0 10)) ((strOfNums y101) ++ x3)) else (none))) else ((some (([(wrap64 (48 + x0)) % 256] : List Int) : List Int)).bind fun y104 => (if (strOfNums y104).size + x3.size ≤ 9223372036854775807 then (some ((strOfNums y104) ++ x3)) else (none)))
def spec_l7Plain.f (k : Nat) (a0 : Int) : Option (ByteArray) := spec_l7Plain.l0 k a0 (⟨#[]⟩ : ByteArray)
set_option maxHeartbeats 8000000 in
set_option maxRecDepth 100000 in
theorem spec_l7Plain.calls (k : Nat) (a0 : Int) (r : ByteArray) (w : World) (h : spec_l7Plain.f k a0 = some r) :
  Calls Tryd.prog 52 #[.int .i64 a0] w fun e w' => e = .returned (.string r) ∧ Below w.heap.size w w' := by
 have HB := Aside0.mk (Below.refl w.heap.size w); have H : (spec_l7Plain.l0 k a0 (⟨#[]⟩ : ByteArray)) = some r := h; clear h; have H' := Aside0.mk H; clear H
 go_enter Tryd.func52, Tryd.ntmps52
 go_wp2
 (try simp only [Act.put, List.setIfInBounds_toArray, List.set_cons_zero, List.set_cons_succ])
 go_loopg [0, 3] k (fun kq v0 v3 w' => ∃ (a1 : Int) (a2 : ByteArray), v0 = .int .i64 a1 ∧ v3 = .string a2 ∧ Aside0 (spec_l7Plain.l0 kq a1 a2 = some r) ∧ Aside0 (kq ≤ k) ∧ Aside0 (Below w.heap.size w w'))
 case atStart => exact ⟨(a0), ((⟨#[]⟩ : ByteArray)), (by first | rfl | (simp; done) | (simp [*]; done)), (by first | rfl | (simp; done) | (simp [*]; done)), H', ⟨Nat.le_refl _⟩, ⟨upH HB.out⟩⟩
 case round =>
  clear H'; obtain ⟨a1, a2, rfl, rfl, HA, HK1, HB⟩ := hrel
  cases gk with
  | zero => exact absurd HA.out (by simp [spec_l7Plain.l0])
  | succ k1 =>
   have H := HA.out; clear HA
   simp only [spec_l7Plain.l0] at H
   by_cases c2 : a1 > 9
   ·
    rw [if_pos c2] at H
    have a5 : decide (9 < a1) = true := decide_eq_true c2; clear c2; obtain ⟨y101, hy101⟩ : ∃ y_ : List Int, y_ = (([(wrap64 (48 + (Int.tmod a1 10))) % 256] : List Int)) := ⟨_, rfl⟩
    replace H : (if (strOfNums y101).size + a2.size ≤ 9223372036854775807 then (spec_l7Plain.l0 k1 (wrap64 (Int.tdiv a1 10)) ((strOfNums y101) ++ a2)) else (none)) = some r := by first | (rw [hy101]; with_reducible exact H) | (have H2_ := (Option.bind_some _ _).symm.trans H; rw [hy101]; with_reducible exact H2_) | (have H2_ := (Option.bind_some _ _).symm.trans H; with_reducible exact H2_) | with_reducible exact H | (rw [hy101]; exact H) | exact H
    have Ny101 := Aside0.mk hy101; clear hy101
    by_cases c3 : (strOfNums y101).size + a2.size ≤ 9223372036854775807
    ·
     rw [if_pos c3] at H
     have a6 := eq_true c3; have a7 : decide ((strOfNums y101).size + a2.size ≤ 9223372036854775807) = true := decide_eq_true c3
     try have a8 : (9223372036854775807 < (strOfNums y101).size + a2.size) = False := eq_false (Nat.not_lt.2 c3)
     have H' := Aside0.mk H; clear H
     go_wp2_with (first | ((with_reducible refine gd_ 10 rfl ?_); refine Kd.R_lit (Kd.int .u8) _ 5 ?hg (N := 10) ?hd (xs := ([(wrap64 (48 + (Int.tmod a1 10))) % 256] : List Int)) (inner := [.int .u8 ((wrap64 (48 + (Int.tmod a1 10))) % 256)]) (ok := fun _ => True) (okp := fun _ => True) ?hr ?hp (fun _ hk => hk) trivial (Below.refl _ _) (Nat.le_refl _) (by simp) ?_; (case hd => rfl); (case hg => rfl); (case hr => first | (go_simp; done) | (go_simp; rfl)); (case hp => exact (Reps.one (show Kd.M (Kd.int .u8) _ _ _ ((wrap64 (48 + (Int.tmod a1 10))) % 256) [.int .u8 ((wrap64 (48 + (Int.tmod a1 10))) % 256)] from rfl) (Reps.none _ _))); intro a9 w4 ho5 hb hg_ hnew_; clear hg_ hnew_; (first | rw [← Ny101.out] at ho5 | (simp only [Int.reduceToNat] at ho5; rw [← Ny101.out] at ho5)); have a3 := Aside0.mk (Kd.R_lower ho5 (below_size (upH HB.out))); replace HB := Aside0.mk (below_step (upH HB.out) hb); clear hb ho5; have hcv6 := own_string (P := Tryd.prog) Tryd.underlying39 Tryd.underlying5 Tryd.underlying9 (Kd.own_of_R a3.out)))
     go_roundg k1
     case measure => have := HK1.out; omega
     case rel => exact ⟨(wrap64 (Int.tdiv a1 10)), ((strOfNums y101) ++ a2), (by first | rfl | (simp; done) | (simp [*]; done)), (by first | rfl | (simp; done) | (simp [*]; done)), H', ⟨by have := HK1.out; omega⟩, ⟨upH HB.out⟩⟩
    ·
     rw [if_neg c3] at H
     exact absurd H (by simp)
   ·
    rw [if_neg c2] at H
    have a5 : decide (9 < a1) = false := decide_eq_false c2; clear c2; obtain ⟨y104, hy104⟩ : ∃ y_ : List Int, y_ = (([(wrap64 (48 + a1)) % 256] : List Int)) := ⟨_, rfl⟩
    replace H : (if (strOfNums y104).size + a2.size ≤ 9223372036854775807 then (some ((strOfNums y104) ++ a2)) else (none)) = some r := by first | (rw [hy104]; with_reducible exact H) | (have H2_ := (Option.bind_some _ _).symm.trans H; rw [hy104]; with_reducible exact H2_) | (have H2_ := (Option.bind_some _ _).symm.trans H; with_reducible exact H2_) | with_reducible exact H | (rw [hy104]; exact H) | exact H
    have Ny104 := Aside0.mk hy104; clear hy104
    by_cases c7 : (strOfNums y104).size + a2.size ≤ 9223372036854775807
    ·
     rw [if_pos c7] at H
     have b0 := eq_true c7; have b1 : decide ((strOfNums y104).size + a2.size ≤ 9223372036854775807) = true := decide_eq_true c7
     try have b2 : (9223372036854775807 < (strOfNums y104).size + a2.size) = False := eq_false (Nat.not_lt.2 c7)
     obtain rfl := Option.some.inj H
     go_wp2_with (first | ((with_reducible refine gd_ 19 rfl ?_); refine Kd.R_lit (Kd.int .u8) _ 5 ?hg (N := 19) ?hd (xs := ([(wrap64 (48 + a1)) % 256] : List Int)) (inner := [.int .u8 ((wrap64 (48 + a1)) % 256)]) (ok := fun _ => True) (okp := fun _ => True) ?hr ?hp (fun _ hk => hk) trivial (Below.refl _ _) (Nat.le_refl _) (by simp) ?_; (case hd => rfl); (case hg => rfl); (case hr => first | (go_simp; done) | (go_simp; rfl)); (case hp => exact (Reps.one (show Kd.M (Kd.int .u8) _ _ _ ((wrap64 (48 + a1)) % 256) [.int .u8 ((wrap64 (48 + a1)) % 256)] from rfl) (Reps.none _ _))); intro b3 w8 ho9 hb hg_ hnew_; clear hg_ hnew_; (first | rw [← Ny104.out] at ho9 | (simp only [Int.reduceToNat] at ho9; rw [← Ny104.out] at ho9)); have a4 := Aside0.mk (Kd.R_lower ho9 (below_size (upH HB.out))); replace HB := Aside0.mk (below_step (upH HB.out) hb); clear hb ho9; have hcv10 := own_string (P := Tryd.prog) Tryd.underlying39 Tryd.underlying5 Tryd.underlying9 (Kd.own_of_R a4.out)))
     go_ret
     exact ⟨by first | rfl | (simp [*, errW_none, errW_some] <;> rfl), upH HB.out⟩
    ·
     rw [if_neg c7] at H
     exact absurd H (by simp)
end
section
open Go.Proofs.YtiihhjfdgojkeaaDoorW.PrintWords.Aside0 renaming mk → yaa
open Go.Proofs.YtiihhjfdgojkeaaDoorW.PrintWords renaming pw_below_drewN → yab

def spec_OpText.l0 : Nat → ByteArray → Int → List Int → Int → Option (ByteArray)
 | 0, _, _, _, _ => none
 | k + 1, x3, x4, x5, x6 => if x6 < x4 then (if x3.size + 1 ≤ 9223372036854775807 then (if 0 ≤ x6 then (if x6 < (x5.length : Int) then ((spec_l7Plain.f k (rd x5 x6)).bind fun t109 => (if (x3 ++ (⟨#[46]⟩ : ByteArray)).size + t109.size ≤ 9223372036854775807 then (spec_OpText.l0 k ((x3 ++ (⟨#[46]⟩ : ByteArray)) ++ t109) x4 x5 (wrap64 (x6 + 1))) else (none))) else (none)) else (none)) else (none)) else (some x3)
def spec_OpText.f (k : Nat) (a0_0 : Int) (a0_1 : Int) (a0_2 : Int) (a0_3 : Int) (a0_4 : Int) : Option (ByteArray) := (spec_OpOk.f a0_0 a0_1 a0_2 a0_3 a0_4).bind fun t102 => (if t102 = true then ((spec_l7Word.f a0_0).bind fun bt103 => (spec_OpText.l0 k bt103.1 bt103.2 (([a0_1, a0_2, a0_3, a0_4] : List Int)) 0)) else (some (⟨#[]⟩ : ByteArray)))
set_option maxHeartbeats 8000000 in
set_option maxRecDepth 100000 in
theorem spec_OpText.calls (k : Nat) (a0_0 : Int) (a0_1 : Int) (a0_2 : Int) (a0_3 : Int) (a0_4 : Int) (r : ByteArray) (w : World) (h : spec_OpText.f k a0_0 a0_1 a0_2 a0_3 a0_4 = some r) :
  Calls Tryd.prog 13 #[.agg #[.int .i64 a0_0, .int .i64 a0_1, .int .i64 a0_2, .int .i64 a0_3, .int .i64 a0_4]] w fun e w' => e = .returned (.string r) ∧ Below w.heap.size w w' := by
 have hu25 := Tryd.underlying25; have HB := yaa (Below.refl w.heap.size w); have H : ((spec_OpOk.f a0_0 a0_1 a0_2 a0_3 a0_4).bind fun d0 => (if d0 = true then ((spec_l7Word.f a0_0).bind fun c8 => (spec_OpText.l0 k c8.1 c8.2 (([a0_1, a0_2, a0_3, a0_4] : List Int)) 0)) else (some (⟨#[]⟩ : ByteArray)))) = some r := h; clear h; obtain ⟨d0, A2, H⟩ := bindA H; (try dsimp only at H)
 by_cases c3 : d0 = true
 ·
  subst c3
  rw [if_pos rfl] at H
  obtain ⟨⟨d1, a9⟩, A4, H⟩ := bindA H; (try dsimp only at H); obtain ⟨y105, hy105⟩ : ∃ y_ : List Int, y_ = (([a0_1, a0_2, a0_3, a0_4] : List Int)) := ⟨_, rfl⟩
  replace H : (spec_OpText.l0 k d1 a9 y105 0) = some r := by first | (rw [hy105]; with_reducible exact H) | (have H2_ := (Option.bind_some _ _).symm.trans H; rw [hy105]; with_reducible exact H2_) | (have H2_ := (Option.bind_some _ _).symm.trans H; with_reducible exact H2_) | with_reducible exact H | (rw [hy105]; exact H) | exact H
  have Ny105 := yaa hy105; clear hy105; have H' := yaa H; clear H
  go_enter Tryd.func13, Tryd.ntmps13
  go_wp2_with (first | ((with_reducible refine gd_ 1 rfl ?_); refine bx_ 1 rfl #[.int .i64 a0_0, .int .i64 a0_1, .int .i64 a0_2, .int .i64 a0_3, .int .i64 a0_4] 25 ?_; intro a8 hg w5 hbox hb; have a5 := yaa (hbox); have b1 := yaa ((by rw [hg]; exact (below_size (upH HB.out)) : w.heap.size ≤ a8)); replace HB := yaa (below_step (upH HB.out) hb); have f4 := b1; clear hb hbox hg; obtain ⟨d2, d3, d4, d5, d6⟩ := cc5_ a5.out; obtain ⟨d8, d9, e0, e1⟩ := cf4_ a5.out; have e3 := blk_frozen a5.out 4) | ((with_reducible refine gc_ 35 rfl ?_); refine gl_ (some 8) rfl Tryd.func35 #[.agg #[.int .i64 a0_0, .int .i64 a0_1, .int .i64 a0_2, .int .i64 a0_3, .int .i64 a0_4]] ?_; (with_reducible refine (spec_OpOk.calls a0_0 a0_1 a0_2 a0_3 a0_4 true _ A2.out).mono ?_); rintro e w7 ⟨rfl, hb⟩; refine ⟨_, rfl, ?_⟩; replace a5 := yaa (blk_below (upB a5.out) hb); replace HB := yaa (below_step (by repeat (with_reducible first | exact HB.out | apply below_alloc | apply yab | apply below_drew1 | refine below_set ?_ (Aside0.out ‹_›))) hb); (try clear hb); obtain ⟨e4, e5, e6, e7, e8⟩ := cc5_ a5.out; obtain ⟨e9, f0, f1, f2⟩ := cf4_ a5.out; have f3 := blk_frozen a5.out 4) | ((with_reducible refine gc_ 51 rfl ?_); refine gl_ (some 13) rfl Tryd.func51 #[.int .i64 a0_0] ?_; (with_reducible refine (spec_l7Word.calls a0_0 d1 a9 _ A4.out).mono ?_); rintro e w9 ⟨rfl, hb⟩; refine ⟨_, rfl, ?_⟩; replace a5 := yaa (blk_below (upB a5.out) hb); replace HB := yaa (below_step (by repeat (with_reducible first | exact HB.out | apply below_alloc | apply yab | apply below_drew1 | refine below_set ?_ (Aside0.out ‹_›))) hb); (try clear hb); obtain ⟨b5, b6, b7, b8, b9⟩ := cc5_ a5.out; obtain ⟨c0, c2, c4, c6⟩ := cf4_ a5.out; have c7 := blk_frozen a5.out 4) | ((with_reducible refine gd_ 24 rfl ?_); refine Kd.R_lit (Kd.int .i64) _ 3 ?hg (N := 24) ?hd (xs := ([a0_1, a0_2, a0_3, a0_4] : List Int)) (inner := [.int .i64 a0_1, .int .i64 a0_2, .int .i64 a0_3, .int .i64 a0_4]) (ok := fun _ => True) (okp := fun _ => True) ?hr ?hp (fun _ hk => hk) trivial (Below.refl _ _) (Nat.le_refl _) (by simp) ?_; (case hd => rfl); (case hg => rfl); (case hr => first | (go_simp; done) | (go_simp; rfl)); (case hp => exact (Reps.one (show Kd.M (Kd.int .i64) _ _ _ a0_1 [.int .i64 a0_1] from rfl) (Reps.one (show Kd.M (Kd.int .i64) _ _ _ a0_2 [.int .i64 a0_2] from rfl) (Reps.one (show Kd.M (Kd.int .i64) _ _ _ a0_3 [.int .i64 a0_3] from rfl) (Reps.one (show Kd.M (Kd.int .i64) _ _ _ a0_4 [.int .i64 a0_4] from rfl) (Reps.none _ _)))))); intro g7 w11 b2 hb hg_ hnew_; clear hg_ hnew_; (first | rw [← Ny105.out] at b2 | (simp only [Int.reduceToNat] at b2; rw [← Ny105.out] at b2)); have c9 := yaa (Kd.R_lower b2 (below_size (by repeat (with_reducible first | exact HB.out | apply below_alloc | apply yab | apply below_drew1 | refine below_set ?_ (Aside0.out ‹_›))))); replace a5 := yaa (blk_below (upB a5.out) hb); replace HB := yaa (below_step (by repeat (with_reducible first | exact HB.out | apply below_alloc | apply yab | apply below_drew1 | refine below_set ?_ (Aside0.out ‹_›))) hb); clear hb b2))
  (try simp only [Act.put, List.setIfInBounds_toArray, List.set_cons_zero, List.set_cons_succ])
  go_loopg [3, 6] k (fun kq v3 v6 w' => ∃ (a7 : ByteArray) (a6 : Int), v3 = .string a7 ∧ v6 = .int .i64 a6 ∧ Aside0 (spec_OpText.l0 kq a7 a9 y105 a6 = some r) ∧ Aside0 (kq ≤ k) ∧ Aside0 (Kd.R (Kd.int .i64) 3 w' w.heap.size (fun _ => True) g7 y105) ∧ Aside0 (w'.heap[a8]? = some (.cells #[.int .i64 a0_0, .int .i64 a0_1, .int .i64 a0_2, .int .i64 a0_3, .int .i64 a0_4] 25 (0, 0))) ∧ Aside0 (Below w.heap.size w w'))
  case atStart => exact ⟨(d1), (0), (by first | rfl | (simp; done) | (simp [*]; done)), (by first | rfl | (simp; done) | (simp [*]; done)), H', ⟨Nat.le_refl _⟩, ⟨by first | exact c9.out | exact upR c9.out⟩, ⟨by exact upB a5.out⟩, ⟨by repeat (with_reducible first | exact HB.out | apply below_alloc | apply yab | apply below_drew1 | refine below_set ?_ (Aside0.out ‹_›))⟩⟩
  case round =>
   clear H'; (try clear c1); (try clear p2); (try clear c3); (try clear c5); (try clear b5); (try clear b6); (try clear b7); (try clear b8); (try clear b9); (try clear d2); (try clear d3); (try clear d4); (try clear d5); (try clear d6); (try clear e4); (try clear e5); (try clear e6); (try clear e7); (try clear e8); (try clear c0); (try clear c2); (try clear c4); (try clear c6); (try clear c7); (try clear d8); (try clear d9); (try clear e0); (try clear e1); (try clear e3); (try clear e9); (try clear f0); (try clear f1); (try clear f2); (try clear f3); obtain ⟨a7, a6, rfl, rfl, HA, HK1, b0, a5, HB⟩ := hrel
   cases gk with
   | zero => exact absurd HA.out (by simp [spec_OpText.l0])
   | succ k1 =>
    have H := HA.out; clear HA
    simp only [spec_OpText.l0] at H
    by_cases c13 : a6 < a9
    ·
     rw [if_pos c13] at H
     have f5 : decide (a6 < a9) = true := decide_eq_true c13; clear c13
     by_cases c14 : a7.size + 1 ≤ 9223372036854775807
     ·
      rw [if_pos c14] at H
      have h0 := eq_true c14; have h1 : decide (a7.size + 1 ≤ 9223372036854775807) = true := decide_eq_true c14
      try have h2 : (9223372036854775807 < a7.size + 1) = False := eq_false (Nat.not_lt.2 c14)
      by_cases c15 : 0 ≤ a6
      ·
       rw [if_pos c15] at H
       replace c15 := decide_eq_true c15
       by_cases c16 : a6 < (y105.length : Int)
       ·
        rw [if_pos c16] at H
        replace c16 := decide_eq_true c16; obtain ⟨b3, A17, H⟩ := bindA H; (try dsimp only at H)
        by_cases c18 : (a7 ++ (⟨#[46]⟩ : ByteArray)).size + b3.size ≤ 9223372036854775807
        ·
         rw [if_pos c18] at H
         have h3 := eq_true c18; have h4 : decide ((a7 ++ (⟨#[46]⟩ : ByteArray)).size + b3.size ≤ 9223372036854775807) = true := decide_eq_true c18
         try have h5 : (9223372036854775807 < (a7 ++ (⟨#[46]⟩ : ByteArray)).size + b3.size) = False := eq_false (Nat.not_lt.2 c18)
         try (have b4 := c18; simp only [ByteArray.size_append', ByteArray.size_mk', List.size_toArray, List.length_cons, List.length_nil, Nat.zero_add, Nat.reduceAdd] at b4; replace b4 := eq_false (Nat.not_lt.2 b4))
         have H' := yaa H; clear H; obtain ⟨h6, h7, g8⟩ := Kd.R_slice b0.out; subst g8; have p108 : 0 ≤ (a6 : Int) := of_decide_eq_true (by assumption); have q108 : a6 < (y105.length : Int) := of_decide_eq_true (by assumption); obtain ⟨ad108, g9, f6⟩ := Kd.at_int (Kd.R_reads' b0.out).2.2 a6 p108 q108
         cases g9
         replace p108 := eq_true p108; replace q108 := eq_true q108
         go_wp2_with (first | ((with_reducible refine gc_ 52 rfl ?_); refine gl_ (some 36) rfl Tryd.func52 #[.int .i64 (rd y105 a6)] ?_; (with_reducible refine (spec_l7Plain.calls k1 (rd y105 a6) b3 _ A17.out).mono ?_); rintro e w20 ⟨rfl, hb⟩; refine ⟨_, rfl, ?_⟩; replace b0 := yaa (Kd.R_below (upR b0.out) hb); replace a5 := yaa (blk_below (upB a5.out) hb); replace HB := yaa (below_step (by repeat (with_reducible first | exact HB.out | apply below_alloc | apply yab | apply below_drew1 | refine below_set ?_ (Aside0.out ‹_›))) hb); (try clear hb)))
         go_roundg k1
         case measure => have := HK1.out; omega
         case rel => exact ⟨((a7 ++ (⟨#[46]⟩ : ByteArray)) ++ b3), (wrap64 (a6 + 1)), (by first | rfl | (simp; done) | (simp [*]; done)), (by first | rfl | (simp; done) | (simp [*]; done)), H', ⟨by have := HK1.out; omega⟩, ⟨by first | exact b0.out | exact upR b0.out⟩, ⟨by exact upB a5.out⟩, ⟨by repeat (with_reducible first | exact HB.out | apply below_alloc | apply yab | apply below_drew1 | refine below_set ?_ (Aside0.out ‹_›))⟩⟩
        ·
         rw [if_neg c18] at H
         exact absurd H (by simp)
       ·
        rw [if_neg c16] at H
        exact absurd H (by simp)
      ·
       rw [if_neg c15] at H
       exact absurd H (by simp)
     ·
      rw [if_neg c14] at H
      exact absurd H (by simp)
    ·
     rw [if_neg c13] at H
     have f5 : decide (a6 < a9) = false := decide_eq_false c13; clear c13; obtain rfl := Option.some.inj H
     go_wp2
     go_ret
     exact ⟨by first | rfl | (simp [*, errW_none, errW_some] <;> rfl), by repeat (with_reducible first | exact HB.out | apply below_alloc | apply yab | apply below_drew1 | refine below_set ?_ (Aside0.out ‹_›))⟩
 ·
  replace c3 := Bool.eq_false_iff.mpr c3
  subst c3
  rw [if_neg (show ¬ (false = true) by decide)] at H
  obtain rfl := Option.some.inj H
  go_enter Tryd.func13, Tryd.ntmps13
  go_wp2_with (first | ((with_reducible refine gd_ 1 rfl ?_); refine bx_ 1 rfl #[.int .i64 a0_0, .int .i64 a0_1, .int .i64 a0_2, .int .i64 a0_3, .int .i64 a0_4] 25 ?_; intro a8 hg w21 hbox hb; have a5 := yaa (hbox); have b1 := yaa ((by rw [hg]; exact (below_size (upH HB.out)) : w.heap.size ≤ a8)); replace HB := yaa (below_step (upH HB.out) hb); have f4 := b1; clear hb hbox hg; obtain ⟨f7, f8, f9, g0, g1⟩ := cc5_ a5.out; obtain ⟨g2, g3, g4, g5⟩ := cf4_ a5.out; have g6 := blk_frozen a5.out 4) | ((with_reducible refine gc_ 35 rfl ?_); refine gl_ (some 8) rfl Tryd.func35 #[.agg #[.int .i64 a0_0, .int .i64 a0_1, .int .i64 a0_2, .int .i64 a0_3, .int .i64 a0_4]] ?_; (with_reducible refine (spec_OpOk.calls a0_0 a0_1 a0_2 a0_3 a0_4 false _ A2.out).mono ?_); rintro e w23 ⟨rfl, hb⟩; refine ⟨_, rfl, ?_⟩; replace a5 := yaa (blk_below (upB a5.out) hb); replace HB := yaa (below_step (by repeat (with_reducible first | exact HB.out | apply below_alloc | apply yab | apply below_drew1 | refine below_set ?_ (Aside0.out ‹_›))) hb); (try clear hb)))
  go_ret
  exact ⟨by first | rfl | (simp [*, errW_none, errW_some] <;> rfl), by repeat (with_reducible first | exact HB.out | apply below_alloc | apply yab | apply below_drew1 | refine below_set ?_ (Aside0.out ‹_›))⟩
end
section
open Go.Proofs.YtiihhjfdgojkeaaDoorW.PrintWords.Aside0 renaming mk → yaa

def laws_toOpOp.f (a0_0 : Int) (a0_1 : Int) (a0_2 : Int) (a0_3 : Int) (a0_4 : Int) : Option (Int × Int × Int × Int × Int) := some (a0_0, a0_1, a0_2, a0_3, a0_4)
set_option maxHeartbeats 8000000 in
set_option maxRecDepth 100000 in
theorem laws_toOpOp.calls (a0_0 : Int) (a0_1 : Int) (a0_2 : Int) (a0_3 : Int) (a0_4 : Int) (r1 : Int) (r2 : Int) (r3 : Int) (r4 : Int) (r5 : Int) (w : World) (h : laws_toOpOp.f a0_0 a0_1 a0_2 a0_3 a0_4 = some (r1, r2, r3, r4, r5)) :
  Calls Tryd.prog 14 #[.agg #[.int .i64 a0_0, .int .i64 a0_1, .int .i64 a0_2, .int .i64 a0_3, .int .i64 a0_4]] w fun e w' => e = .returned (.agg #[.int .i64 r1, .int .i64 r2, .int .i64 r3, .int .i64 r4, .int .i64 r5]) ∧ Below w.heap.size w w' := by
 have hu23 := Tryd.underlying23; have hu25 := Tryd.underlying25; have HB := yaa (Below.refl w.heap.size w); have H : (some (a0_0, a0_1, a0_2, a0_3, a0_4)) = some (r1, r2, r3, r4, r5) := h; clear h
 simp only [Option.some.injEq, Prod.mk.injEq] at H
 obtain ⟨rfl, rfl, rfl, rfl, rfl⟩ := H
 go_enter Tryd.func14, Tryd.ntmps14
 go_wp2_with (first | ((with_reducible refine gd_ 1 rfl ?_); refine bx_ 1 rfl #[.int .i64 a0_0, .int .i64 a0_1, .int .i64 a0_2, .int .i64 a0_3, .int .i64 a0_4] 23 ?_; intro a9 hg w2 hbox hb; have a1 := yaa (hbox); have b2 := yaa ((by rw [hg]; exact (below_size (upH HB.out)) : w.heap.size ≤ a9)); replace HB := yaa (below_step (upH HB.out) hb); have e7 := b2; clear hb hbox hg) | ((with_reducible refine gd_ 2 rfl ?_); refine bx_ 2 rfl #[.int .i64 0, .int .i64 0, .int .i64 0, .int .i64 0, .int .i64 0] 25 ?_; intro a5 hg w3 hbox hb; have a2 := yaa (hbox); have b3 := yaa ((by rw [hg]; exact (below_size (by repeat (with_reducible first | exact HB.out | apply below_alloc | apply pw_below_drewN | apply below_drew1 | refine below_set ?_ (Aside0.out ‹_›)))) : w.heap.size ≤ a5)); replace HB := yaa (below_step (by repeat (with_reducible first | exact HB.out | apply below_alloc | apply pw_below_drewN | apply below_drew1 | refine below_set ?_ (Aside0.out ‹_›))) hb); have e8 := b3; have a3 := yaa ((by rw [hg]; exact Nat.ne_of_lt (blk_lt (upB a1.out)) : a9 ≠ a5)); replace a1 := yaa (blk_below (upB a1.out) hb); have a6 := yaa a3.out.symm; clear hb hbox hg) | ((with_reducible refine gd_ 3 rfl ?_); refine bx_ 3 rfl #[.int .i64 0, .int .i64 0, .int .i64 0, .int .i64 0, .int .i64 0] 25 ?_; intro b0 hg w4 hbox hb; have b1 := yaa (hbox); have b4 := yaa ((by rw [hg]; exact (below_size (by repeat (with_reducible first | exact HB.out | apply below_alloc | apply pw_below_drewN | apply below_drew1 | refine below_set ?_ (Aside0.out ‹_›)))) : w.heap.size ≤ b0)); replace HB := yaa (below_step (by repeat (with_reducible first | exact HB.out | apply below_alloc | apply pw_below_drewN | apply below_drew1 | refine below_set ?_ (Aside0.out ‹_›))) hb); have e9 := b4; have a4 := yaa ((by rw [hg]; exact Nat.ne_of_lt (blk_lt (upB a1.out)) : a9 ≠ b0)); replace a1 := yaa (blk_below (upB a1.out) hb); have a7 := yaa a4.out.symm; have a0 := yaa ((by rw [hg]; exact Nat.ne_of_lt (blk_lt (upB a2.out)) : a5 ≠ b0)); replace a2 := yaa (blk_below (upB a2.out) hb); have a8 := yaa a0.out.symm; clear hb hbox hg; have f0 := a3.out; have f1 := a6.out; have f2 := a4.out; have f3 := a7.out; obtain ⟨c6, c7, c8, c9, d0⟩ := cc5_ a1.out; obtain ⟨d1, d2, d3, d4, d5⟩ := cf5_ a1.out; have f4 := a8.out; have f5 := a0.out; obtain ⟨d7, d8, d9, e0, e1⟩ := cc5_ b1.out; obtain ⟨e2, e3, e4, e5, e6⟩ := cf5_ b1.out; obtain ⟨b6, b7, b8, b9, c0⟩ := cc5_ a2.out; obtain ⟨c1, c2, c3, c4⟩ := cf4_ a2.out; have c5 := blk_frozen a2.out 4))
 refine bodyPost_ret (results_cell_row rfl _ _ a5 25 #[.int .i64 a0_0, .int .i64 a0_1, .int .i64 a0_2, .int .i64 a0_3, .int .i64 a0_4] (0, 0) _ rfl (by (repeat refine oneB ?_); refine blk_put (cs := #[.int .i64 a0_0, .int .i64 a0_1, .int .i64 a0_2, .int .i64 a0_3, .int .i64 0]) ?_ 4 _ rfl; refine blk_put (cs := #[.int .i64 a0_0, .int .i64 a0_1, .int .i64 a0_2, .int .i64 0, .int .i64 0]) ?_ 3 _ rfl; refine blk_put (cs := #[.int .i64 a0_0, .int .i64 a0_1, .int .i64 0, .int .i64 0, .int .i64 0]) ?_ 2 _ rfl; refine blk_put (cs := #[.int .i64 a0_0, .int .i64 0, .int .i64 0, .int .i64 0, .int .i64 0]) ?_ 1 _ rfl; refine blk_put (cs := #[.int .i64 0, .int .i64 0, .int .i64 0, .int .i64 0, .int .i64 0]) ?_ 0 _ rfl; (repeat refine oneB ?_); refine blk_far ?_ a0.out _; (repeat refine oneB ?_); refine blk_far ?_ a0.out _; (repeat refine oneB ?_); refine blk_far ?_ a0.out _; (repeat refine oneB ?_); refine blk_far ?_ a0.out _; (repeat refine oneB ?_); refine blk_far ?_ a0.out _; exact upB a2.out) Tryd.underlying25 rfl (by kernel_rfl)) rfl ?_
 exact ⟨by first | rfl | (simp [*, errW_none, errW_some] <;> rfl), by repeat (with_reducible first | exact HB.out | apply below_alloc | apply pw_below_drewN | apply below_drew1 | refine below_set ?_ (Aside0.out ‹_›))⟩
end
section
theorem eqA25 (d : Nat) (w : World) (x0 y0 : Int) (x1 y1 : Int) (x2 y2 : Int) (x3 y3 : Int) (x4 y4 : Int) :
    (Op.equalIn (d + 2) 25 (.agg #[.int .i64 x0, .int .i64 x1, .int .i64 x2, .int .i64 x3, .int .i64 x4]) (.agg #[.int .i64 y0, .int .i64 y1, .int .i64 y2, .int .i64 y3, .int .i64 y4])).run Tryd.prog w = .ok (x0 == y0 && (x1 == y1 && (x2 == y2 && (x3 == y3 && (x4 == y4))))) w := by
  refine eqA_of Tryd.underlying25 (by kernel_rfl) ?_
  refine eqf_cons (by rfl) (by go_simp; rfl) (by go_simp; rfl) (by go_simp) ?_
  refine eqf_cons (by rfl) (by go_simp; rfl) (by go_simp; rfl) (by go_simp) ?_
  refine eqf_cons (by rfl) (by go_simp; rfl) (by go_simp; rfl) (by go_simp) ?_
  refine eqf_cons (by rfl) (by go_simp; rfl) (by go_simp; rfl) (by go_simp) ?_
  exact eqf_last (by rfl) (by go_simp; rfl) (by go_simp; rfl) (by go_simp)
end
section
def impl_within.f (a0 : Int) (a1 : Int) (a2 : Int) : Option (Bool) := if a0 ≥ a1 then (some (decide (a0 ≤ a2))) else (some false)
set_option maxHeartbeats 8000000 in
set_option maxRecDepth 100000 in
theorem impl_within.calls (a0 : Int) (a1 : Int) (a2 : Int) (r : Bool) (w : World) (h : impl_within.f a0 a1 a2 = some r) :
    Calls Tryd.prog 68 #[.int .i64 a0, .int .i64 a1, .int .i64 a2] w fun e w' => e = .returned (.bool r) ∧ Drawn0 w w' := by
  have H : (if a0 ≥ a1 then (some (decide (a0 ≤ a2))) else (some false)) = some r := h; clear h
  by_cases c4 : a0 ≥ a1
  · rw [if_pos c4] at H
    have c4b0 : decide (a1 ≤ a0) = true := decide_eq_true c4; clear c4; obtain rfl := Option.some.inj H
    go_enter Tryd.func68, Tryd.ntmps68
    go_wp2
    go_ret
    exact ⟨by first | rfl | (simp; done) | (simp [*]; done), by repeat (first | exact Drawn0.refl _ | apply Drawn0.step)⟩
  · rw [if_neg c4] at H
    have c4b0 : decide (a1 ≤ a0) = false := decide_eq_false c4; clear c4; obtain rfl := Option.some.inj H
    go_enter Tryd.func68, Tryd.ntmps68
    go_wp2
    go_ret
    exact ⟨by first | rfl | (simp; done) | (simp [*]; done), by repeat (first | exact Drawn0.refl _ | apply Drawn0.step)⟩
end
section
def impl_sizeOk.f (a0 : Int) : Option (Bool) := if a0 ≥ 1 then (some (decide (a0 ≤ 6))) else (some false)
set_option maxHeartbeats 8000000 in
set_option maxRecDepth 100000 in
theorem impl_sizeOk.calls (a0 : Int) (r : Bool) (w : World) (h : impl_sizeOk.f a0 = some r) :
    Calls Tryd.prog 81 #[.int .i64 a0] w fun e w' => e = .returned (.bool r) ∧ Drawn0 w w' := by
  have H : (if a0 ≥ 1 then (some (decide (a0 ≤ 6))) else (some false)) = some r := h; clear h
  by_cases c2 : a0 ≥ 1
  · rw [if_pos c2] at H
    have c2b0 : decide (1 ≤ a0) = true := decide_eq_true c2; clear c2; obtain rfl := Option.some.inj H
    go_enter Tryd.func81, Tryd.ntmps81
    go_wp2
    go_ret
    exact ⟨by first | rfl | (simp; done) | (simp [*]; done), by repeat (first | exact Drawn0.refl _ | apply Drawn0.step)⟩
  · rw [if_neg c2] at H
    have c2b0 : decide (1 ≤ a0) = false := decide_eq_false c2; clear c2; obtain rfl := Option.some.inj H
    go_enter Tryd.func81, Tryd.ntmps81
    go_wp2
    go_ret
    exact ⟨by first | rfl | (simp; done) | (simp [*]; done), by repeat (first | exact Drawn0.refl _ | apply Drawn0.step)⟩
end
section
def impl_partOk.f (a0 : Int) : Option (Bool) := if a0 ≥ 0 then (some (decide (a0 ≤ 255))) else (some false)
set_option maxHeartbeats 8000000 in
set_option maxRecDepth 100000 in
theorem impl_partOk.calls (a0 : Int) (r : Bool) (w : World) (h : impl_partOk.f a0 = some r) :
    Calls Tryd.prog 82 #[.int .i64 a0] w fun e w' => e = .returned (.bool r) ∧ Drawn0 w w' := by
  have H : (if a0 ≥ 0 then (some (decide (a0 ≤ 255))) else (some false)) = some r := h; clear h
  by_cases c2 : a0 ≥ 0
  · rw [if_pos c2] at H
    have c2b0 : decide (0 ≤ a0) = true := decide_eq_true c2; clear c2; obtain rfl := Option.some.inj H
    go_enter Tryd.func82, Tryd.ntmps82
    go_wp2
    go_ret
    exact ⟨by first | rfl | (simp; done) | (simp [*]; done), by repeat (first | exact Drawn0.refl _ | apply Drawn0.step)⟩
  · rw [if_neg c2] at H
    have c2b0 : decide (0 ≤ a0) = false := decide_eq_false c2; clear c2; obtain rfl := Option.some.inj H
    go_enter Tryd.func82, Tryd.ntmps82
    go_wp2
    go_ret
    exact ⟨by first | rfl | (simp; done) | (simp [*]; done), by repeat (first | exact Drawn0.refl _ | apply Drawn0.step)⟩
end
section
attribute [local go_sem high] eqA25
open Go.Proofs.YtiihhjfdgojkeaaDoorW.PrintWords renaming pw_below_drewN → yaa, below_alloc → yab, below_drew1 → yac, below_set → yae
open Go.Proofs.YtiihhjfdgojkeaaDoorW.PrintWords.Aside0 renaming mk → yad

def impl_OpOk.j0 : Nat → Int → Bool → Int → Int → Int → Int → Int → Option (Bool)
 | 0, _, _, _, _, _, _, _ => none
 | k + 1, x4, x25, x102000, x102001, x102002, x102003, x102004 => if x25 = true then (some (x102001 == 0 && (x102002 == 0 && (x102003 == 0 && (x102004 == 0))))) else (if x4 = 7 then ((impl_sizeOk.f x102001).bind fun t106 => (if t106 = true then ((impl_sizeOk.f x102002).bind fun t107 => (if t107 = true then (if x102003 = 0 then (some (x102004 == 0)) else (some false)) else (some false))) else (some false))) else (if x4 = 8 then ((impl_partOk.f x102001).bind fun t108 => (if t108 = true then ((impl_partOk.f x102002).bind fun t109 => (if t109 = true then ((impl_partOk.f x102003).bind fun t110 => (if t110 = true then (some (x102004 == 0)) else (some false))) else (some false))) else (some false))) else (some false)))
def impl_OpOk.f (k : Nat) (a0_0 : Int) (a0_1 : Int) (a0_2 : Int) (a0_3 : Int) (a0_4 : Int) : Option (Bool) := if a0_0 = 1 then ((impl_within.f a0_1 0 5).bind fun t102 => (if t102 = true then ((impl_within.f a0_2 0 5).bind fun t103 => (if t103 = true then ((impl_sizeOk.f a0_3).bind fun t104 => (if t104 = true then ((impl_sizeOk.f a0_4).bind fun t105 => (some t105)) else (some false))) else (some false))) else (some false))) else (if a0_0 = 2 then (impl_OpOk.j0 k a0_0 (a0_0 == 2) a0_0 a0_1 a0_2 a0_3 a0_4) else (if a0_0 = 3 then (impl_OpOk.j0 k a0_0 (a0_0 == 3) a0_0 a0_1 a0_2 a0_3 a0_4) else (if a0_0 = 4 then (impl_OpOk.j0 k a0_0 (a0_0 == 4) a0_0 a0_1 a0_2 a0_3 a0_4) else (if a0_0 = 5 then (impl_OpOk.j0 k a0_0 (a0_0 == 5) a0_0 a0_1 a0_2 a0_3 a0_4) else (impl_OpOk.j0 k a0_0 (a0_0 == 6) a0_0 a0_1 a0_2 a0_3 a0_4)))))
set_option maxHeartbeats 8000000 in
set_option maxRecDepth 100000 in
theorem impl_OpOk.calls (k : Nat) (a0_0 : Int) (a0_1 : Int) (a0_2 : Int) (a0_3 : Int) (a0_4 : Int) (r : Bool) (w : World) (h : impl_OpOk.f k a0_0 a0_1 a0_2 a0_3 a0_4 = some r) :
  Calls Tryd.prog 34 #[.agg #[.int .i64 a0_0, .int .i64 a0_1, .int .i64 a0_2, .int .i64 a0_3, .int .i64 a0_4]] w fun e w' => e = .returned (.bool r) ∧ Below w.heap.size w w' := by
 have hu25 := Tryd.underlying25; have HB := yad (Below.refl w.heap.size w); have H : (if a0_0 = 1 then ((impl_within.f a0_1 0 5).bind fun h6 => (if h6 = true then ((impl_within.f a0_2 0 5).bind fun h7 => (if h7 = true then ((impl_sizeOk.f a0_3).bind fun h8 => (if h8 = true then ((impl_sizeOk.f a0_4).bind fun h9 => (some h9)) else (some false))) else (some false))) else (some false))) else (if a0_0 = 2 then (impl_OpOk.j0 k a0_0 (a0_0 == 2) a0_0 a0_1 a0_2 a0_3 a0_4) else (if a0_0 = 3 then (impl_OpOk.j0 k a0_0 (a0_0 == 3) a0_0 a0_1 a0_2 a0_3 a0_4) else (if a0_0 = 4 then (impl_OpOk.j0 k a0_0 (a0_0 == 4) a0_0 a0_1 a0_2 a0_3 a0_4) else (if a0_0 = 5 then (impl_OpOk.j0 k a0_0 (a0_0 == 5) a0_0 a0_1 a0_2 a0_3 a0_4) else (impl_OpOk.j0 k a0_0 (a0_0 == 6) a0_0 a0_1 a0_2 a0_3 a0_4)))))) = some r := h; clear h
 by_cases c2 : a0_0 = 1
 ·
  rw [if_pos c2] at H
  have i0 := beq_iff_eq.mpr c2; have i1 := bne_eq_false_iff_eq.mpr c2; clear c2; obtain ⟨h6, A3, H⟩ := bindA H; (try dsimp only at H)
  by_cases c4 : h6 = true
  ·
   subst c4
   rw [if_pos rfl] at H
   obtain ⟨h7, A5, H⟩ := bindA H; (try dsimp only at H)
   by_cases c6 : h7 = true
   ·
    subst c6
    rw [if_pos rfl] at H
    obtain ⟨h8, A7, H⟩ := bindA H; (try dsimp only at H)
    by_cases c8 : h8 = true
    ·
     subst c8
     rw [if_pos rfl] at H
     obtain ⟨h9, A9, H⟩ := bindA H; (try dsimp only at H); obtain rfl := Option.some.inj H
     go_enter Tryd.func34, Tryd.ntmps34
     go_wp2_with (first | ((with_reducible refine gd_ 1 rfl ?_); refine bx_ 1 rfl #[.int .i64 a0_0, .int .i64 a0_1, .int .i64 a0_2, .int .i64 a0_3, .int .i64 a0_4] 25 ?_; intro a6 hg w10 hbox hb; have a5 := yad (hbox); have a7 := yad ((by rw [hg]; exact (below_size (upH HB.out)) : w.heap.size ≤ a6)); replace HB := yad (below_step (upH HB.out) hb); have b2 := a7; clear hb hbox hg; obtain ⟨b3, b4, b5, b6, b7⟩ := cc5_ a5.out; obtain ⟨b8, b9, c0, c1⟩ := cf4_ a5.out; have c7 := blk_frozen a5.out 4) | ((with_reducible refine gc_ 68 rfl ?_); refine gl_ (some 9) rfl Tryd.func68 #[.int .i64 a0_1, .int .i64 0, .int .i64 5] ?_; (with_reducible refine (impl_within.calls a0_1 0 5 true _ A3.out).mono ?_); rintro e w' ⟨rfl, ⟨nd, rfl⟩⟩; refine ⟨_, rfl, ?_⟩) | (go_at_call 68; (with_reducible refine (impl_within.calls a0_2 0 5 true _ A5.out).mono ?_); rintro e w' ⟨rfl, ⟨nd, rfl⟩⟩) | (go_at_call 81; (with_reducible refine (impl_sizeOk.calls a0_3 true _ A7.out).mono ?_); rintro e w' ⟨rfl, ⟨nd, rfl⟩⟩) | (go_at_call 81; (with_reducible refine (impl_sizeOk.calls a0_4 h9 _ A9.out).mono ?_); rintro e w' ⟨rfl, ⟨nd, rfl⟩⟩))
     go_ret
     exact ⟨by first | rfl | (simp [*, errW_none, errW_some] <;> rfl), by repeat (with_reducible first | exact HB.out | apply yab | apply yaa | apply yac | refine yae ?_ (Aside0.out ‹_›))⟩
    ·
     replace c8 := Bool.eq_false_iff.mpr c8
     subst c8
     rw [if_neg (show ¬ (false = true) by decide)] at H
     obtain rfl := Option.some.inj H
     go_enter Tryd.func34, Tryd.ntmps34
     go_wp2_with (first | ((with_reducible refine gd_ 1 rfl ?_); refine bx_ 1 rfl #[.int .i64 a0_0, .int .i64 a0_1, .int .i64 a0_2, .int .i64 a0_3, .int .i64 a0_4] 25 ?_; intro a6 hg w12 hbox hb; have a5 := yad (hbox); have a7 := yad ((by rw [hg]; exact (below_size (upH HB.out)) : w.heap.size ≤ a6)); replace HB := yad (below_step (upH HB.out) hb); have b2 := a7; clear hb hbox hg; obtain ⟨c9, d0, d1, d2, d3⟩ := cc5_ a5.out; obtain ⟨d4, d5, d6, d7⟩ := cf4_ a5.out; have d8 := blk_frozen a5.out 4) | ((with_reducible refine gc_ 68 rfl ?_); refine gl_ (some 9) rfl Tryd.func68 #[.int .i64 a0_1, .int .i64 0, .int .i64 5] ?_; (with_reducible refine (impl_within.calls a0_1 0 5 true _ A3.out).mono ?_); rintro e w' ⟨rfl, ⟨nd, rfl⟩⟩; refine ⟨_, rfl, ?_⟩) | (go_at_call 68; (with_reducible refine (impl_within.calls a0_2 0 5 true _ A5.out).mono ?_); rintro e w' ⟨rfl, ⟨nd, rfl⟩⟩) | (go_at_call 81; (with_reducible refine (impl_sizeOk.calls a0_3 false _ A7.out).mono ?_); rintro e w' ⟨rfl, ⟨nd, rfl⟩⟩))
     go_ret
     exact ⟨by first | rfl | (simp [*, errW_none, errW_some] <;> rfl), by repeat (with_reducible first | exact HB.out | apply yab | apply yaa | apply yac | refine yae ?_ (Aside0.out ‹_›))⟩
   ·
    replace c6 := Bool.eq_false_iff.mpr c6
    subst c6
    rw [if_neg (show ¬ (false = true) by decide)] at H
    obtain rfl := Option.some.inj H
    go_enter Tryd.func34, Tryd.ntmps34
    go_wp2_with (first | ((with_reducible refine gd_ 1 rfl ?_); refine bx_ 1 rfl #[.int .i64 a0_0, .int .i64 a0_1, .int .i64 a0_2, .int .i64 a0_3, .int .i64 a0_4] 25 ?_; intro a6 hg w14 hbox hb; have a5 := yad (hbox); have a7 := yad ((by rw [hg]; exact (below_size (upH HB.out)) : w.heap.size ≤ a6)); replace HB := yad (below_step (upH HB.out) hb); have b2 := a7; clear hb hbox hg; obtain ⟨d9, e0, e1, e2, e3⟩ := cc5_ a5.out; obtain ⟨e4, e5, e6, e7⟩ := cf4_ a5.out; have e8 := blk_frozen a5.out 4) | ((with_reducible refine gc_ 68 rfl ?_); refine gl_ (some 9) rfl Tryd.func68 #[.int .i64 a0_1, .int .i64 0, .int .i64 5] ?_; (with_reducible refine (impl_within.calls a0_1 0 5 true _ A3.out).mono ?_); rintro e w' ⟨rfl, ⟨nd, rfl⟩⟩; refine ⟨_, rfl, ?_⟩) | (go_at_call 68; (with_reducible refine (impl_within.calls a0_2 0 5 false _ A5.out).mono ?_); rintro e w' ⟨rfl, ⟨nd, rfl⟩⟩))
    go_ret
    exact ⟨by first | rfl | (simp [*, errW_none, errW_some] <;> rfl), by repeat (with_reducible first | exact HB.out | apply yab | apply yaa | apply yac | refine yae ?_ (Aside0.out ‹_›))⟩
  ·
   replace c4 := Bool.eq_false_iff.mpr c4
   subst c4
   rw [if_neg (show ¬ (false = true) by decide)] at H
   obtain rfl := Option.some.inj H
   go_enter Tryd.func34, Tryd.ntmps34
   go_wp2_with (first | ((with_reducible refine gd_ 1 rfl ?_); refine bx_ 1 rfl #[.int .i64 a0_0, .int .i64 a0_1, .int .i64 a0_2, .int .i64 a0_3, .int .i64 a0_4] 25 ?_; intro a6 hg w16 hbox hb; have a5 := yad (hbox); have a7 := yad ((by rw [hg]; exact (below_size (upH HB.out)) : w.heap.size ≤ a6)); replace HB := yad (below_step (upH HB.out) hb); have b2 := a7; clear hb hbox hg; obtain ⟨e9, f0, f1, f2, f3⟩ := cc5_ a5.out; obtain ⟨f4, f5, f6, f7⟩ := cf4_ a5.out; have f8 := blk_frozen a5.out 4) | ((with_reducible refine gc_ 68 rfl ?_); refine gl_ (some 9) rfl Tryd.func68 #[.int .i64 a0_1, .int .i64 0, .int .i64 5] ?_; (with_reducible refine (impl_within.calls a0_1 0 5 false _ A3.out).mono ?_); rintro e w' ⟨rfl, ⟨nd, rfl⟩⟩; refine ⟨_, rfl, ?_⟩))
   go_ret
   exact ⟨by first | rfl | (simp [*, errW_none, errW_some] <;> rfl), by repeat (with_reducible first | exact HB.out | apply yab | apply yaa | apply yac | refine yae ?_ (Aside0.out ‹_›))⟩
 ·
  rw [if_neg c2] at H
  have i0 := beq_eq_false_iff_ne.mpr c2; have i1 := bne_iff_ne.mpr c2; have HC18 := yad H; clear H
  go_enter Tryd.func34, Tryd.ntmps34
  go_upto_if 25 with (first | ((with_reducible refine gd_ 1 rfl ?_); refine bx_ 1 rfl #[.int .i64 a0_0, .int .i64 a0_1, .int .i64 a0_2, .int .i64 a0_3, .int .i64 a0_4] 25 ?_; intro a6 hg w19 hbox hb; have a5 := yad (hbox); have a7 := yad ((by rw [hg]; exact (below_size (upH HB.out)) : w.heap.size ≤ a6)); replace HB := yad (below_step (upH HB.out) hb); have b2 := a7; clear hb hbox hg; obtain ⟨f9, g0, g1, g2, g3⟩ := cc5_ a5.out; obtain ⟨g4, g5, g6, g7⟩ := cf4_ a5.out; have g8 := blk_frozen a5.out 4))
  (try simp only [Act.put, List.setIfInBounds_toArray, List.set_cons_zero, List.set_cons_succ])
  go_cut [25] (fun v25 wc => ∃ (kq : Nat) (b0 : Bool), v25 = .bool b0 ∧ Aside0 (impl_OpOk.j0 kq a0_0 b0 a0_0 a0_1 a0_2 a0_3 a0_4 = some r) ∧ Aside0 (kq ≤ k) ∧ Aside0 (wc.heap[a6]? = some (.cells #[.int .i64 a0_0, .int .i64 a0_1, .int .i64 a0_2, .int .i64 a0_3, .int .i64 a0_4] 25 (0, 0))) ∧ Aside0 (Below w.heap.size w wc))
  case first =>
   have H := HC18.out; clear HC18
   by_cases c21 : a0_0 = 2
   ·
    rw [if_pos c21] at H
    have a9 := beq_iff_eq.mpr c21; have g9 := bne_eq_false_iff_eq.mpr c21; clear c21
    (first | rw [a9] | (simp only [i64_w, i32_w]; rw [a9]) | skip)
    have H' := yad H; clear H
    go_wp2
    go_meet
    case rel => exact ⟨_, ((a0_0 == 2)), (by first | rfl | (simp; done) | (simp [*]; done)), H', ⟨by first | omega | exact Nat.le_refl _⟩, ⟨by exact upB a5.out⟩, ⟨by repeat (with_reducible first | exact HB.out | apply yab | apply yaa | apply yac | refine yae ?_ (Aside0.out ‹_›))⟩⟩
   ·
    rw [if_neg c21] at H
    have a9 := beq_eq_false_iff_ne.mpr c21; have g9 := bne_iff_ne.mpr c21
    (first | rw [a9] | (simp only [i64_w, i32_w]; rw [a9]) | skip)
    by_cases c22 : a0_0 = 3
    ·
     rw [if_pos c22] at H
     have h0 := beq_iff_eq.mpr c22; have h1 := bne_eq_false_iff_eq.mpr c22; clear c22; have H' := yad H; clear H
     go_wp2
     go_meet
     case rel => exact ⟨_, ((a0_0 == 3)), (by first | rfl | (simp; done) | (simp [*]; done)), H', ⟨by first | omega | exact Nat.le_refl _⟩, ⟨by exact upB a5.out⟩, ⟨by repeat (with_reducible first | exact HB.out | apply yab | apply yaa | apply yac | refine yae ?_ (Aside0.out ‹_›))⟩⟩
    ·
     rw [if_neg c22] at H
     have h0 := beq_eq_false_iff_ne.mpr c22; have h1 := bne_iff_ne.mpr c22
     by_cases c23 : a0_0 = 4
     ·
      rw [if_pos c23] at H
      have h2 := beq_iff_eq.mpr c23; have h3 := bne_eq_false_iff_eq.mpr c23; clear c23; have H' := yad H; clear H
      go_wp2
      go_meet
      case rel => exact ⟨_, ((a0_0 == 4)), (by first | rfl | (simp; done) | (simp [*]; done)), H', ⟨by first | omega | exact Nat.le_refl _⟩, ⟨by exact upB a5.out⟩, ⟨by repeat (with_reducible first | exact HB.out | apply yab | apply yaa | apply yac | refine yae ?_ (Aside0.out ‹_›))⟩⟩
     ·
      rw [if_neg c23] at H
      have h2 := beq_eq_false_iff_ne.mpr c23; have h3 := bne_iff_ne.mpr c23
      by_cases c24 : a0_0 = 5
      ·
       rw [if_pos c24] at H
       have h4 := beq_iff_eq.mpr c24; have h5 := bne_eq_false_iff_eq.mpr c24; clear c24; have H' := yad H; clear H
       go_wp2
       go_meet
       case rel => exact ⟨_, ((a0_0 == 5)), (by first | rfl | (simp; done) | (simp [*]; done)), H', ⟨by first | omega | exact Nat.le_refl _⟩, ⟨by exact upB a5.out⟩, ⟨by repeat (with_reducible first | exact HB.out | apply yab | apply yaa | apply yac | refine yae ?_ (Aside0.out ‹_›))⟩⟩
      ·
       rw [if_neg c24] at H
       have h4 := beq_eq_false_iff_ne.mpr c24; have h5 := bne_iff_ne.mpr c24; have H' := yad H; clear H
       go_wp2
       go_meet
       case rel => exact ⟨_, ((a0_0 == 6)), (by first | rfl | (simp; done) | (simp [*]; done)), H', ⟨by first | omega | exact Nat.le_refl _⟩, ⟨by exact upB a5.out⟩, ⟨by repeat (with_reducible first | exact HB.out | apply yab | apply yaa | apply yac | refine yae ?_ (Aside0.out ‹_›))⟩⟩
  case rest =>
   clear HC18; (try clear c2); (try clear i0); (try clear i1); (try clear p2); (try clear c3); (try clear c4); (try clear c6); (try clear c8); (try clear c21); (try clear a9); (try clear g9); (try clear c22); (try clear h0); (try clear h1); (try clear c23); (try clear h2); (try clear h3); (try clear c24); (try clear h4); (try clear h5); (try clear b3); (try clear b4); (try clear b5); (try clear b6); (try clear b7); (try clear c9); (try clear d0); (try clear d1); (try clear d2); (try clear d3); (try clear d9); (try clear e0); (try clear e1); (try clear e2); (try clear e3); (try clear e9); (try clear f0); (try clear f1); (try clear f2); (try clear f3); (try clear f9); (try clear g0); (try clear g1); (try clear g2); (try clear g3); (try clear b8); (try clear b9); (try clear c0); (try clear c1); (try clear c7); (try clear d4); (try clear d5); (try clear d6); (try clear d7); (try clear d8); (try clear e4); (try clear e5); (try clear e6); (try clear e7); (try clear e8); (try clear f4); (try clear f5); (try clear f6); (try clear f7); (try clear f8); (try clear g4); (try clear g5); (try clear g6); (try clear g7); (try clear g8); obtain ⟨kq, b0, rfl, HA, HJ17, a5, HB⟩ := hcut
   cases kq with
   | zero => exact absurd HA.out (by simp [impl_OpOk.j0])
   | succ kj17 =>
    have H := HA.out; clear HA
    simp only [impl_OpOk.j0] at H
    by_cases c25 : b0 = true
    ·
     subst c25
     rw [if_pos rfl] at H
     obtain rfl := Option.some.inj H; obtain ⟨i8, i9, j1, j2, j3⟩ := cc5_ a5.out; obtain ⟨j4, j5, j6, j7, j8⟩ := cf5_ a5.out
     go_wp2
     go_ret
     exact ⟨by first | rfl | (simp [*, errW_none, errW_some] <;> rfl), by repeat (with_reducible first | exact HB.out | apply yab | apply yaa | apply yac | refine yae ?_ (Aside0.out ‹_›))⟩
    ·
     replace c25 := Bool.eq_false_iff.mpr c25
     subst c25
     rw [if_neg (show ¬ (false = true) by decide)] at H
     by_cases c27 : a0_0 = 7
     ·
      rw [if_pos c27] at H
      have i2 := beq_iff_eq.mpr c27; have i3 := bne_eq_false_iff_eq.mpr c27; clear c27; obtain ⟨s0, A28, H⟩ := bindA H; (try dsimp only at H)
      by_cases c29 : s0 = true
      ·
       subst c29
       rw [if_pos rfl] at H
       obtain ⟨s1, A30, H⟩ := bindA H; (try dsimp only at H)
       by_cases c31 : s1 = true
       ·
        subst c31
        rw [if_pos rfl] at H
        by_cases c32 : a0_3 = 0
        ·
         rw [if_pos c32] at H
         have i4 := beq_iff_eq.mpr c32; have i5 := bne_eq_false_iff_eq.mpr c32; clear c32; obtain rfl := Option.some.inj H; obtain ⟨j9, k0, k1, k2, k3⟩ := cc5_ a5.out; obtain ⟨k4, k5, k6, k7, k8⟩ := cf5_ a5.out
         go_wp2_with (first | ((with_reducible refine gc_ 81 rfl ?_); refine gl_ (some 40) rfl Tryd.func81 #[.int .i64 a0_1] ?_; (with_reducible refine (impl_sizeOk.calls a0_1 true _ A28.out).mono ?_); rintro e w' ⟨rfl, ⟨nd, rfl⟩⟩; refine ⟨_, rfl, ?_⟩) | (go_at_call 81; (with_reducible refine (impl_sizeOk.calls a0_2 true _ A30.out).mono ?_); rintro e w' ⟨rfl, ⟨nd, rfl⟩⟩))
         go_ret
         exact ⟨by first | rfl | (simp [*, errW_none, errW_some] <;> rfl), by repeat (with_reducible first | exact HB.out | apply yab | apply yaa | apply yac | refine yae ?_ (Aside0.out ‹_›))⟩
        ·
         rw [if_neg c32] at H
         have i4 := beq_eq_false_iff_ne.mpr c32; have i5 := bne_iff_ne.mpr c32; obtain rfl := Option.some.inj H; obtain ⟨k9, l0, l1, l2, l3⟩ := cc5_ a5.out; obtain ⟨l4, l5, l6, l7, l8⟩ := cf5_ a5.out
         go_wp2_with (first | ((with_reducible refine gc_ 81 rfl ?_); refine gl_ (some 40) rfl Tryd.func81 #[.int .i64 a0_1] ?_; (with_reducible refine (impl_sizeOk.calls a0_1 true _ A28.out).mono ?_); rintro e w' ⟨rfl, ⟨nd, rfl⟩⟩; refine ⟨_, rfl, ?_⟩) | (go_at_call 81; (with_reducible refine (impl_sizeOk.calls a0_2 true _ A30.out).mono ?_); rintro e w' ⟨rfl, ⟨nd, rfl⟩⟩))
         go_ret
         exact ⟨by first | rfl | (simp [*, errW_none, errW_some] <;> rfl), by repeat (with_reducible first | exact HB.out | apply yab | apply yaa | apply yac | refine yae ?_ (Aside0.out ‹_›))⟩
       ·
        replace c31 := Bool.eq_false_iff.mpr c31
        subst c31
        rw [if_neg (show ¬ (false = true) by decide)] at H
        obtain rfl := Option.some.inj H; obtain ⟨l9, m0, m1, m2, m3⟩ := cc5_ a5.out; obtain ⟨m4, m5, m6, m7, m8⟩ := cf5_ a5.out
        go_wp2_with (first | ((with_reducible refine gc_ 81 rfl ?_); refine gl_ (some 40) rfl Tryd.func81 #[.int .i64 a0_1] ?_; (with_reducible refine (impl_sizeOk.calls a0_1 true _ A28.out).mono ?_); rintro e w' ⟨rfl, ⟨nd, rfl⟩⟩; refine ⟨_, rfl, ?_⟩) | (go_at_call 81; (with_reducible refine (impl_sizeOk.calls a0_2 false _ A30.out).mono ?_); rintro e w' ⟨rfl, ⟨nd, rfl⟩⟩))
        go_ret
        exact ⟨by first | rfl | (simp [*, errW_none, errW_some] <;> rfl), by repeat (with_reducible first | exact HB.out | apply yab | apply yaa | apply yac | refine yae ?_ (Aside0.out ‹_›))⟩
      ·
       replace c29 := Bool.eq_false_iff.mpr c29
       subst c29
       rw [if_neg (show ¬ (false = true) by decide)] at H
       obtain rfl := Option.some.inj H; obtain ⟨m9, n0, n1, n2, n3⟩ := cc5_ a5.out; obtain ⟨n4, n5, n6, n7, n8⟩ := cf5_ a5.out
       go_wp2_with (first | ((with_reducible refine gc_ 81 rfl ?_); refine gl_ (some 40) rfl Tryd.func81 #[.int .i64 a0_1] ?_; (with_reducible refine (impl_sizeOk.calls a0_1 false _ A28.out).mono ?_); rintro e w' ⟨rfl, ⟨nd, rfl⟩⟩; refine ⟨_, rfl, ?_⟩))
       go_ret
       exact ⟨by first | rfl | (simp [*, errW_none, errW_some] <;> rfl), by repeat (with_reducible first | exact HB.out | apply yab | apply yaa | apply yac | refine yae ?_ (Aside0.out ‹_›))⟩
     ·
      rw [if_neg c27] at H
      have i2 := beq_eq_false_iff_ne.mpr c27; have i3 := bne_iff_ne.mpr c27
      by_cases c37 : a0_0 = 8
      ·
       rw [if_pos c37] at H
       have i6 := beq_iff_eq.mpr c37; have i7 := bne_eq_false_iff_eq.mpr c37; clear c37; obtain ⟨s2, A38, H⟩ := bindA H; (try dsimp only at H)
       by_cases c39 : s2 = true
       ·
        subst c39
        rw [if_pos rfl] at H
        obtain ⟨s3, A40, H⟩ := bindA H; (try dsimp only at H)
        by_cases c41 : s3 = true
        ·
         subst c41
         rw [if_pos rfl] at H
         obtain ⟨s4, A42, H⟩ := bindA H; (try dsimp only at H)
         by_cases c43 : s4 = true
         ·
          subst c43
          rw [if_pos rfl] at H
          obtain rfl := Option.some.inj H; obtain ⟨n9, o0, o1, o2, o3⟩ := cc5_ a5.out; obtain ⟨o4, o5, o6, o7, o8⟩ := cf5_ a5.out
          go_wp2_with (first | ((with_reducible refine gc_ 82 rfl ?_); refine gl_ (some 60) rfl Tryd.func82 #[.int .i64 a0_1] ?_; (with_reducible refine (impl_partOk.calls a0_1 true _ A38.out).mono ?_); rintro e w' ⟨rfl, ⟨nd, rfl⟩⟩; refine ⟨_, rfl, ?_⟩) | (go_at_call 82; (with_reducible refine (impl_partOk.calls a0_2 true _ A40.out).mono ?_); rintro e w' ⟨rfl, ⟨nd, rfl⟩⟩) | (go_at_call 82; (with_reducible refine (impl_partOk.calls a0_3 true _ A42.out).mono ?_); rintro e w' ⟨rfl, ⟨nd, rfl⟩⟩))
          go_ret
          exact ⟨by first | rfl | (simp [*, errW_none, errW_some] <;> rfl), by repeat (with_reducible first | exact HB.out | apply yab | apply yaa | apply yac | refine yae ?_ (Aside0.out ‹_›))⟩
         ·
          replace c43 := Bool.eq_false_iff.mpr c43
          subst c43
          rw [if_neg (show ¬ (false = true) by decide)] at H
          obtain rfl := Option.some.inj H; obtain ⟨o9, p0, p1, p3, p4⟩ := cc5_ a5.out; obtain ⟨p5, p6, p7, p8, p9⟩ := cf5_ a5.out
          go_wp2_with (first | ((with_reducible refine gc_ 82 rfl ?_); refine gl_ (some 60) rfl Tryd.func82 #[.int .i64 a0_1] ?_; (with_reducible refine (impl_partOk.calls a0_1 true _ A38.out).mono ?_); rintro e w' ⟨rfl, ⟨nd, rfl⟩⟩; refine ⟨_, rfl, ?_⟩) | (go_at_call 82; (with_reducible refine (impl_partOk.calls a0_2 true _ A40.out).mono ?_); rintro e w' ⟨rfl, ⟨nd, rfl⟩⟩) | (go_at_call 82; (with_reducible refine (impl_partOk.calls a0_3 false _ A42.out).mono ?_); rintro e w' ⟨rfl, ⟨nd, rfl⟩⟩))
          go_ret
          exact ⟨by first | rfl | (simp [*, errW_none, errW_some] <;> rfl), by repeat (with_reducible first | exact HB.out | apply yab | apply yaa | apply yac | refine yae ?_ (Aside0.out ‹_›))⟩
        ·
         replace c41 := Bool.eq_false_iff.mpr c41
         subst c41
         rw [if_neg (show ¬ (false = true) by decide)] at H
         obtain rfl := Option.some.inj H; obtain ⟨q0, q1, q2, q3, q4⟩ := cc5_ a5.out; obtain ⟨q5, q6, q7, q8, q9⟩ := cf5_ a5.out
         go_wp2_with (first | ((with_reducible refine gc_ 82 rfl ?_); refine gl_ (some 60) rfl Tryd.func82 #[.int .i64 a0_1] ?_; (with_reducible refine (impl_partOk.calls a0_1 true _ A38.out).mono ?_); rintro e w' ⟨rfl, ⟨nd, rfl⟩⟩; refine ⟨_, rfl, ?_⟩) | (go_at_call 82; (with_reducible refine (impl_partOk.calls a0_2 false _ A40.out).mono ?_); rintro e w' ⟨rfl, ⟨nd, rfl⟩⟩))
         go_ret
         exact ⟨by first | rfl | (simp [*, errW_none, errW_some] <;> rfl), by repeat (with_reducible first | exact HB.out | apply yab | apply yaa | apply yac | refine yae ?_ (Aside0.out ‹_›))⟩
       ·
        replace c39 := Bool.eq_false_iff.mpr c39
        subst c39
        rw [if_neg (show ¬ (false = true) by decide)] at H
        obtain rfl := Option.some.inj H; obtain ⟨r0, r1, r2, r3, r4⟩ := cc5_ a5.out; obtain ⟨r5, r6, r7, r8, r9⟩ := cf5_ a5.out
        go_wp2_with (first | ((with_reducible refine gc_ 82 rfl ?_); refine gl_ (some 60) rfl Tryd.func82 #[.int .i64 a0_1] ?_; (with_reducible refine (impl_partOk.calls a0_1 false _ A38.out).mono ?_); rintro e w' ⟨rfl, ⟨nd, rfl⟩⟩; refine ⟨_, rfl, ?_⟩))
        go_ret
        exact ⟨by first | rfl | (simp [*, errW_none, errW_some] <;> rfl), by repeat (with_reducible first | exact HB.out | apply yab | apply yaa | apply yac | refine yae ?_ (Aside0.out ‹_›))⟩
      ·
       rw [if_neg c37] at H
       have i6 := beq_eq_false_iff_ne.mpr c37; have i7 := bne_iff_ne.mpr c37; obtain rfl := Option.some.inj H
       go_wp2
       go_ret
       exact ⟨by first | rfl | (simp [*, errW_none, errW_some] <;> rfl), by repeat (with_reducible first | exact HB.out | apply yab | apply yaa | apply yac | refine yae ?_ (Aside0.out ‹_›))⟩
end
end Go.Proofs.YtiihhjfdgojkeaaDoor.X
namespace Go.Proofs.YtiihhjfdgojkeaaDoor.Opn
open Go.RowKit Go.Proofs.YtiihhjfdgojkeaaDoorW.PrintWords

/-- Every reading of type t is a reading of kind d, of a datum that is good. -/
def Opens (P : Program) (t : TypeId) {α : Type} (d : Kd α) (good : α → Prop) : Prop :=
  P.cellsOf t = d.sz ∧ ∀ (H : Type) (enc : TypeId × Value → H) (w : World) (n : Nat) (cs : List Value) (x : DataW H × List MemPlace),
    DataW.trod enc P w 0 (fun _ => true) true n t cs = some x → ∃ a : α, d.K w a cs ∧ good a

theorem opens_int {P : Program} {t : TypeId} {k : IntKind} (ht : P.underlying t = some (.int k)) (hc : P.cellsOf t = 1) :
    Opens P t (Kd.int k) (fun x => (Lit.int k x).wf = true) :=
  ⟨hc, fun H enc w n cs x h => by
    obtain ⟨m, rfl, _, hw⟩ := DataW.trod_int ht h
    exact ⟨m, rfl, hw⟩⟩

/-- The fields from offset 'off' on. -/
def OpensF (P : Program) (fs : List Field) (off : Nat) {α : Type} (d : Kd α) (good : α → Prop) : Prop :=
  ∀ (H : Type) (enc : TypeId × Value → H) (w : World) (n : Nat) (cs : List Value), cs.length = off + d.sz →
    (∀ f ∈ fs, ∃ x, DataW.trod enc P w 0 (fun _ => true) true n f.type ((cs.drop f.offset).take (P.cellsOf f.type)) = some x) →
    ∃ a : α, d.K w a (cs.drop off) ∧ good a

theorem opensF_one {P : Program} {f : Field} {off : Nat} {α : Type} {d : Kd α} {good : α → Prop} (ho : f.offset = off) (h : Opens P f.type d good) : OpensF P [f] off d good := by
  intro H enc w n cs hl hx
  obtain ⟨x, hx⟩ := hx f (by simp)
  obtain ⟨a, hK, hg⟩ := h.2 H enc w n _ x hx
  rw [ho, h.1, List.take_of_length_le (by rw [List.length_drop]; omega)] at hK
  exact ⟨a, hK, hg⟩

theorem opensF_cons {P : Program} {f : Field} {fs : List Field} {off : Nat} {α β : Type} {d : Kd α} {d2 : Kd β} {good : α → Prop} {good2 : β → Prop} (ho : f.offset = off) (h : Opens P f.type d good) (h2 : OpensF P fs (off + d.sz) d2 good2) :
    OpensF P (f :: fs) off (Kd.pair d d2) (fun x => good x.1 ∧ good2 x.2) := by
  intro H enc w n cs hl hx
  have hs : (Kd.pair d d2).sz = d.sz + d2.sz := rfl
  obtain ⟨x, hx0⟩ := hx f (by simp)
  obtain ⟨a, hK, hg⟩ := h.2 H enc w n _ x hx0
  obtain ⟨b, hK2, hg2⟩ := h2 H enc w n cs (by omega) (fun f' hf' => hx f' (by simp [hf']))
  rw [ho, h.1] at hK
  refine ⟨(a, b), ⟨_, _, ?_, hK, hK2⟩, hg, hg2⟩
  rw [← List.drop_drop, List.take_append_drop]

theorem opens_struct {P : Program} {t : TypeId} {fs : Array Field} {α : Type} {d : Kd α} {good : α → Prop} (ht : P.underlying t = some (.struct fs)) (hc : P.cellsOf t = d.sz) (h : OpensF P fs.toList 0 d good) : Opens P t d good :=
  ⟨hc, fun H enc w n cs x hx => by
    obtain ⟨xs, m, _, _, hl, hxl, hget⟩ := DataW.trod_struct ht hx
    have := h H enc w m cs (by omega) (fun f hf => by
      obtain ⟨i, hi⟩ := List.getElem?_of_mem hf
      have hi' : fs[i]? = some f := by simpa using hi
      have hlt : i < xs.length := by
        have := (List.getElem?_eq_some_iff.1 hi).1
        simp at this
        omega
      exact ⟨xs[i], by rw [hget i f hi', List.getElem?_eq_getElem hlt]⟩)
    simpa using this⟩

theorem Opens.of_trod {P : Program} {t : TypeId} {α : Type} {d : Kd α} {good : α → Prop} (h : Opens P t d good) {H : Type} {enc : TypeId × Value → H} {w : World} {v : Value} {x : DataW H} {ps : List MemPlace}
    (ht : DataW.Trod enc P w 0 (fun _ => true) true t v x ps) : ∃ a : α, d.K w a v.cells.toList ∧ good a := by
  obtain ⟨n, hn⟩ := ht
  exact h.2 H enc w n _ _ hn

end Go.Proofs.YtiihhjfdgojkeaaDoor.Opn
namespace Go.Proofs.YtiihhjfdgojkeaaDoor.X
open Go.RowKit Go.Proofs.YtiihhjfdgojkeaaDoorW.PrintWords Go.Proofs.YtiihhjfdgojkeaaDoor.Opn
set_option linter.unusedVariables false
end Go.Proofs.YtiihhjfdgojkeaaDoor.X
namespace Go.Proofs.YtiihhjfdgojkeaaDoor.X
open Go.RowKit Go.Proofs.YtiihhjfdgojkeaaDoorW.PrintWords Go.Proofs.YtiihhjfdgojkeaaDoorW.PrintLast Go.Proofs.YtiihhjfdgojkeaaDoorW.PrintMore
attribute [local go_sem] max2_int min2_int max_two min_two max_three min_three max_four min_four
set_option linter.unusedVariables false
set_option linter.unusedSimpArgs false

section
open Go.Proofs.YtiihhjfdgojkeaaDoor.X renaming rd_T25 → yaa
end
section
open Go.Proofs.YtiihhjfdgojkeaaDoorW.PrintWords.Drawn0 renaming refl → yaa, step → yab
end
section
open Go.Proofs.YtiihhjfdgojkeaaDoorW.PrintWords.Aside0 renaming mk → yaa
end
section

end
section

end
section
open Go.Proofs.YtiihhjfdgojkeaaDoorW.PrintWords.Aside0 renaming mk → yaa
end
end Go.Proofs.YtiihhjfdgojkeaaDoor.X
