/- Lemmas and contracts for the law FnExactDskText, part 2: of the program's functions, and over data alone. Conditions: the listed package-level variables begin as the program's text lays them (tied by the card). -/
import Derived.Test.YtiihhjfdgojkeaaDoorMFnExactDskText1
import Derived.Test.YtiihhjfdgojkeaaDoorProg
import Derived.Below
import Derived.Deep.Draws
import Derived.Deep.AppendLies
import Derived.Maps.AppendAt
import Derived.OwnWalk
import Derived.Laws.BytesArg
import Derived.Laws.MakeOwn
import Derived.Laws.OwnMore
import Derived.Deep.OwnRows
import Derived.Tactics
import Derived.Lib.ConvBytes
import Derived.Laws.Slices
import Derived.WalkKit
import Derived.KernelRfl
import Derived.RowKit3
import Derived.Deep.LoopGhost
import Derived.Deep.QuietTactic
import Derived.BigQuiet
import Derived.WideLaws
import Derived.Deep.DeepCutAuto
import Derived.Deep.CutBlock
import Derived.Deep.RegionHeld3
import Derived.Laws.Rows
import Derived.Lib.AppendStr
import Derived.ArgAppend
import Derived.Laws.IdiomCopy
import Derived.OrdersHeld
import Derived.Laws.BitsLemmas
import Derived.RowKit
import Derived.ChangeArms
import Derived.WideShapes
import Derived.DataElems
import Derived.DataReads
namespace Go.Proofs.YtiihhjfdgojkeaaDoorW.PrintLast
open Go.RowKit Go.Proofs.YtiihhjfdgojkeaaDoorW.PrintWords
variable {P : Program} {ops : Array Oper} {Q : Exit → Act → World → Prop} {S : World → Prop} {ds : List Nat}
/-- An operation that yields in every world. -/
theorem pz_ {T : Bool × List (List Nat × List Nat)} {oi : Oper} {v : Value} {fuel : Nat} {l : Array Bool} {a : Act} {w : World} (i d : Nat) (l' : Array Bool) (hT : Aside0 (rtab .any ops = T)) (hc : anyT T l.toList l'.toList i = true) {a' : Act}
    (h : wpAnyLast P .any ops Q S ds fuel l' a' w)
    (hi : ops[i]? = some oi := by rfl) (hN : oi.dst = some d := by rfl) (hw : Region.wanted oi (yielded ops a.tmps) = true := by rfl)
    (hy : ∀ w', (execOp a.eval oi).run P w' = .ok (.value v) w' := by (intro w'; go_simp; with_reducible rfl))
    (ha : a.put (some d) v = a' := by (simp only [Act.put, List.setIfInBounds_toArray, List.set_cons_zero, List.set_cons_succ, i64_w, i32_w]; rfl))
    (hQ : ∀ c a w, Q (.panic c) (a.put oi.dst v) w → Q (.panic c) a w := by exact fun _ _ _ h => h) :
    wpAnyLast P .any ops Q S ds (fuel + 1) l a w :=
  pure_ l' hi hN (any_of hT.out hc) hQ (Or.inl ⟨hw, hy⟩) ha h
/-- An operation that reads what S says. -/
theorem tz_ {T : Bool × List (List Nat × List Nat)} {B : List Nat} {oi : Oper} {v : Value} {fuel : Nat} {l : Array Bool} {a : Act} {w : World} (i d : Nat) (l' : Array Bool) (hT : Aside0 (rtab .any ops = T)) (hB : Aside0 (waitsOk T.2 B = true)) (hc : takeW T B ds l.toList l'.toList i = true) (hS : S w) {a' : Act}
    (h : wpAnyLast P .any ops Q S ds fuel l' a' w)
    (hi : ops[i]? = some oi := by rfl) (hN : oi.dst = some d := by rfl) (hw : Region.wanted oi (yielded ops a.tmps) = true := by rfl)
    (hy : ∀ w', S w' → (execOp a.eval oi).run P w' = .ok (.value v) w' := by (intro w' hs; go_simp; with_reducible rfl))
    (ha : a.put (some d) v = a' := by (simp only [Act.put, List.setIfInBounds_toArray, List.set_cons_zero, List.set_cons_succ, i64_w, i32_w]; rfl))
    (hQ : ∀ c a w, Q (.panic c) (a.put oi.dst v) w → Q (.panic c) a w := by exact fun _ _ _ h => h) :
    wpAnyLast P .any ops Q S ds (fuel + 1) l a w :=
  take_ l' hi hN (take_ofW hT.out hB.out hc) hQ (Or.inl ⟨hw, hy⟩) hS ha h
/-! ### What is kept in a world that was made of another one by making blocks and by drawing -/
class UpW (w w' : World) : Prop where
  step : ∀ K : World → Prop, (∀ v O, K v → K (v.alloc O)) → (∀ v, K v → K v.drew) → (∀ v n, K v → K (v.drewN n)) → K w → K w'
instance upw_refl (w : World) : UpW w w := ⟨fun _ _ _ _ h => h⟩
instance upw_alloc (w w' : World) (O : Obj) [h : UpW w w'] : UpW w (w'.alloc O) := ⟨fun K a b c k => a _ _ (h.step K a b c k)⟩
instance upw_drew (w w' : World) [h : UpW w w'] : UpW w w'.drew := ⟨fun K a b c k => b _ (h.step K a b c k)⟩
instance upw_drewN (w w' : World) (n : Nat) [h : UpW w w'] : UpW w (w'.drewN n) := ⟨fun K a b c k => c _ _ (h.step K a b c k)⟩
theorem upB {w w' : World} {g : Nat} {o : Obj} (h : w.heap[g]? = some o) [u : UpW w w'] : w'.heap[g]? = some o := u.step (fun v => v.heap[g]? = some o) (fun _ O k => blk_alloc k O) (fun _ k => blk_drew k) (fun _ n k => blk_drewN k n) h
theorem upR {α : Type} {d : Kd α} {e base : Nat} {ok : Nat → Prop} {w w' : World} {v : Value} {xs : List α} (h : d.R e w base ok v xs) [u : UpW w w'] : d.R e w' base ok v xs := u.step (fun x => d.R e x base ok v xs) (fun _ O k => Kd.R_alloc k O) (fun _ k => Kd.R_drew k) (fun _ n k => Kd.R_drewN k n) h
theorem upH {w0 w w' : World} (h : Below w0.heap.size w0 w) [u : UpW w w'] : Below w0.heap.size w0 w' := u.step (fun x => Below w0.heap.size w0 x) (fun _ O k => below_alloc k O) (fun _ k => below_drew1 k) (fun _ n k => pw_below_drewN k n) h
/-- One world made of another by making a block or by drawing. -/
class OneW (w : outParam World) (w' : World) : Prop where
  up : UpW w w'
instance onew_alloc (w : World) (O : Obj) : OneW w (w.alloc O) := ⟨inferInstance⟩
instance onew_drew (w : World) : OneW w w.drew := ⟨inferInstance⟩
instance onew_drewN (w : World) (n : Nat) : OneW w (w.drewN n) := ⟨inferInstance⟩
theorem oneB {w w' : World} {g : Nat} {o : Obj} (h : w.heap[g]? = some o) [u : OneW w w'] : w'.heap[g]? = some o := @upB _ _ _ _ h u.up
/-! ### Cells of a block -/
section
variable {w : World} {g t : Nat} {a b c d e f i j k : Value}
theorem cc5_ (h : w.heap[g]? = some (.cells #[a, b, c, d, e] t (0, 0))) : w.cell? ⟨g, 0, none⟩ = some a ∧ w.cell? ⟨g, 1, none⟩ = some b ∧ w.cell? ⟨g, 2, none⟩ = some c ∧ w.cell? ⟨g, 3, none⟩ = some d ∧ w.cell? ⟨g, 4, none⟩ = some e := ⟨(blk_cell h 0).trans rfl, (blk_cell h 1).trans rfl, (blk_cell h 2).trans rfl, (blk_cell h 3).trans rfl, (blk_cell h 4).trans rfl⟩
theorem cc6_ (h : w.heap[g]? = some (.cells #[a, b, c, d, e, f] t (0, 0))) : w.cell? ⟨g, 0, none⟩ = some a ∧ w.cell? ⟨g, 1, none⟩ = some b ∧ w.cell? ⟨g, 2, none⟩ = some c ∧ w.cell? ⟨g, 3, none⟩ = some d ∧ w.cell? ⟨g, 4, none⟩ = some e ∧ w.cell? ⟨g, 5, none⟩ = some f := ⟨(blk_cell h 0).trans rfl, (blk_cell h 1).trans rfl, (blk_cell h 2).trans rfl, (blk_cell h 3).trans rfl, (blk_cell h 4).trans rfl, (blk_cell h 5).trans rfl⟩
theorem cc7_ (h : w.heap[g]? = some (.cells #[a, b, c, d, e, f, i] t (0, 0))) : w.cell? ⟨g, 0, none⟩ = some a ∧ w.cell? ⟨g, 1, none⟩ = some b ∧ w.cell? ⟨g, 2, none⟩ = some c ∧ w.cell? ⟨g, 3, none⟩ = some d ∧ w.cell? ⟨g, 4, none⟩ = some e ∧ w.cell? ⟨g, 5, none⟩ = some f ∧ w.cell? ⟨g, 6, none⟩ = some i := ⟨(blk_cell h 0).trans rfl, (blk_cell h 1).trans rfl, (blk_cell h 2).trans rfl, (blk_cell h 3).trans rfl, (blk_cell h 4).trans rfl, (blk_cell h 5).trans rfl, (blk_cell h 6).trans rfl⟩
variable {cs : Array Value}
theorem cf4_ (h : w.heap[g]? = some (.cells cs t (0, 0))) : w.frozen? ⟨g, 0, none⟩ = false ∧ w.frozen? ⟨g, 1, none⟩ = false ∧ w.frozen? ⟨g, 2, none⟩ = false ∧ w.frozen? ⟨g, 3, none⟩ = false := ⟨blk_frozen h 0, blk_frozen h 1, blk_frozen h 2, blk_frozen h 3⟩
theorem cf5_ (h : w.heap[g]? = some (.cells cs t (0, 0))) : w.frozen? ⟨g, 0, none⟩ = false ∧ w.frozen? ⟨g, 1, none⟩ = false ∧ w.frozen? ⟨g, 2, none⟩ = false ∧ w.frozen? ⟨g, 3, none⟩ = false ∧ w.frozen? ⟨g, 4, none⟩ = false := ⟨blk_frozen h 0, blk_frozen h 1, blk_frozen h 2, blk_frozen h 3, blk_frozen h 4⟩
theorem cf6_ (h : w.heap[g]? = some (.cells cs t (0, 0))) : w.frozen? ⟨g, 0, none⟩ = false ∧ w.frozen? ⟨g, 1, none⟩ = false ∧ w.frozen? ⟨g, 2, none⟩ = false ∧ w.frozen? ⟨g, 3, none⟩ = false ∧ w.frozen? ⟨g, 4, none⟩ = false ∧ w.frozen? ⟨g, 5, none⟩ = false := ⟨blk_frozen h 0, blk_frozen h 1, blk_frozen h 2, blk_frozen h 3, blk_frozen h 4, blk_frozen h 5⟩
theorem cf7_ (h : w.heap[g]? = some (.cells cs t (0, 0))) : w.frozen? ⟨g, 0, none⟩ = false ∧ w.frozen? ⟨g, 1, none⟩ = false ∧ w.frozen? ⟨g, 2, none⟩ = false ∧ w.frozen? ⟨g, 3, none⟩ = false ∧ w.frozen? ⟨g, 4, none⟩ = false ∧ w.frozen? ⟨g, 5, none⟩ = false ∧ w.frozen? ⟨g, 6, none⟩ = false := ⟨blk_frozen h 0, blk_frozen h 1, blk_frozen h 2, blk_frozen h 3, blk_frozen h 4, blk_frozen h 5, blk_frozen h 6⟩
end
theorem upc_ {w w' : World} {a : Addr} {v : Value} (hb : Below w.heap.size w w') (h : w.cell? a = some v) : w'.cell? a = some v := (hb.cell (World.block_lt_of_cell? w _ h)).trans h
/-- A step of what a function comes to. -/
theorem bindA {α β : Type} {x : Option α} {f : α → Option β} {r : β} (H : x.bind f = some r) : ∃ a, Aside0 (x = some a) ∧ f a = some r := by
  obtain ⟨a, h, k⟩ := Option.bind_eq_some_iff.mp H
  exact ⟨a, ⟨h⟩, k⟩
/-- n signs, off a number. -/
def bl_ (n m : Nat) : Array Bool := ((List.range n).map fun i => m.testBit i).toArray
section
variable {P : Program} {ops : Array Oper} {rest : List Oper} {o : Oper} {a : Act} {Q : Exit → Act → World → Prop}
/-- A block is made. -/
theorem bx_ {W : World} (N : Tmp) (hd : o.dst = some N) (cs : Array Value) (t : TypeId)
    (h : ∀ g, g = W.heap.size → ∀ w1, w1.heap[g]? = some (.cells cs t (0, 0)) → Below W.heap.size W w1 → wpList P ops Q rest (a.put o.dst (.pointer (some ⟨g, 0, none⟩))) w1)
    (hg : o.guard = none := by first | rfl | (simp [Region.wanted, yielded, *]; done))
    (hr : (execOp a.eval o).run P W = .ok (.value (.pointer (some ⟨W.heap.size, 0, none⟩))) (W.alloc (.cells cs t (0, 0))) := by first | (go_simp; done) | (go_simp; rfl)) : wpList P ops Q (o :: rest) a W := box_event hg hd hr h
theorem gc_ (f : FuncId) {W : World} {as1 : Array Operand} {ts : Array TypeId} (_ho : o.op = .call { callee := .value (.func f), args := as1, argTypes := ts }) (h : wpList P ops Q (o :: rest) a W) : wpList P ops Q (o :: rest) a W := h
theorem gd_ (N : Tmp) {W : World} (_hN : o.dst = some N) (h : wpList P ops Q (o :: rest) a W) : wpList P ops Q (o :: rest) a W := h
/-- A call. -/
theorem gl_ {w : World} (N : Option Tmp) (hd : o.dst = N) {f : FuncId} {fn : Func} {aa : Array Operand} {ts : Array TypeId} (hf : P.funcs[f]? = some fn) (args : Array Value)
    (h : Calls P f args w fun e w' => ∃ v, e = .returned v ∧ wpList P ops Q rest (a.put N v) w') (hg : o.guard = none := by rfl) (hname : (fn.name == "runtime.NumGoroutine") = false := by kernel_rfl) (hb : fn.body.isSome = true := by rfl)
    (hop : o.op = .call { callee := .value (.func f), args := aa, argTypes := ts } := by rfl) (hargs : aa.map a.eval = args := by ((try simp only [List.map_toArray, List.map_cons, List.map_nil]); first | done | rfl | (simp only [List.length_drop, List.length_take]; rfl))) : wpList P ops Q (o :: rest) a w :=
  goesL_ N hd hg hf hname hb args hop hargs h
end
end Go.Proofs.YtiihhjfdgojkeaaDoorW.PrintLast
namespace Go.Proofs.YtiihhjfdgojkeaaDoor.X
open Go.RowKit Go.Proofs.YtiihhjfdgojkeaaDoorW.PrintWords Go.Proofs.YtiihhjfdgojkeaaDoorW.PrintLast Go.Proofs.YtiihhjfdgojkeaaDoorW.PrintMore
attribute [local go_sem] max2_int min2_int max_two min_two max_three min_three max_four min_four
set_option linter.unusedVariables false
set_option linter.unusedSimpArgs false

section
def errW : Option Int → Value
  | none => .nilIface
  | some c => .iface 0 (.int .i64 c)
theorem errW_none : errW none = .nilIface := rfl
theorem errW_some (c : Int) : errW (some c) = .iface 0 (.int .i64 c) := rfl

theorem info5 : (Tryd.prog.info? 5).map (fun i => (i.zero, i.size, i.bytes)) = some (some (.int .u8 0), 1, 1) := by kernel_rfl
-- the values' own types
/-! #### struct type 23 -/
structure S23 where
  f0 : Int
  f1 : Int
  f2 : Int
  f3 : Int
  f4 : Int

/-! #### struct type 25 -/
structure S25 where
  f0 : Int
  f1 : Int
  f2 : Int
  f3 : Int
  f4 : Int
def z25 : S25 := ⟨(0 : Int), (0 : Int), (0 : Int), (0 : Int), (0 : Int)⟩
def rd_T25 (xs : List S25) (i : Int) : S25 := xs.getD i.toNat z25
end
section
def laws_szByteS.f (l0 : List Int) (a1 : Int) : Option (Int) := if (wrap64 (a1 - (l0.length : Int))) < 0 then (some (-1)) else (some (wrap64 (a1 - (l0.length : Int))))
set_option maxHeartbeats 8000000 in
set_option maxRecDepth 100000 in
theorem laws_szByteS.calls (A0 : Option Addr) (c0 : Nat) (l0 : List Int) (a1 : Int) (r : Int) (w : World) (hr0 : Kd.C (Kd.int .u8) w A0 l0.length l0) (hc0 : l0.length ≤ c0) (h : laws_szByteS.f l0 a1 = some r) :
    Calls Tryd.prog 123 #[.slice A0 l0.length c0, .int .i64 a1] w fun e w' => e = .returned (.int .i64 r) ∧ Drawn0 w w' := by
  have HR0 := Aside0.mk hr0; have HC0 := Aside0.mk hc0; clear hr0 hc0; have H : (if (wrap64 (a1 - (l0.length : Int))) < 0 then (some (-1)) else (some (wrap64 (a1 - (l0.length : Int))))) = some r := h; clear h
  by_cases c3 : (wrap64 (a1 - (l0.length : Int))) < 0
  · rw [if_pos c3] at H
    have c3b0 : decide ((wrap64 (a1 - (l0.length : Int))) < 0) = true := decide_eq_true c3; clear c3; obtain rfl := Option.some.inj H
    go_enter Tryd.func123, Tryd.ntmps123
    go_wp2
    go_ret
    exact ⟨by first | rfl | (simp; done) | (simp [*]; done), by repeat (first | exact Drawn0.refl _ | apply Drawn0.step)⟩
  · rw [if_neg c3] at H
    have c3b0 : decide ((wrap64 (a1 - (l0.length : Int))) < 0) = false := decide_eq_false c3; clear c3; obtain rfl := Option.some.inj H
    go_enter Tryd.func123, Tryd.ntmps123
    go_wp2
    go_ret
    exact ⟨by first | rfl | (simp; done) | (simp [*]; done), by repeat (first | exact Drawn0.refl _ | apply Drawn0.step)⟩
end
section
def laws_szTenEvent.f (a0_0 : Int) (a0_1 : ByteArray) (a0_2 : Int) (l0_3 : List Int) (a0_4 : Int) (a1 : Int) : Option (Int) := if (wrap64 (a1 - (a0_1.size : Int))) < 0 then (some (-1)) else ((laws_szByteS.f l0_3 (wrap64 (a1 - (a0_1.size : Int)))).bind fun t102 => (if t102 < 0 then (some (-1)) else (some t102)))
set_option maxHeartbeats 8000000 in
set_option maxRecDepth 100000 in
theorem laws_szTenEvent.calls (a0_0 : Int) (a0_1 : ByteArray) (a0_2 : Int) (A0_3 : Option Addr) (c0_3 : Nat) (l0_3 : List Int) (a0_4 : Int) (a1 : Int) (r : Int) (w : World) (hr0_3 : Kd.C (Kd.int .u8) w A0_3 l0_3.length l0_3) (hc0_3 : l0_3.length ≤ c0_3) (h : laws_szTenEvent.f a0_0 a0_1 a0_2 l0_3 a0_4 a1 = some r) :
  Calls Tryd.prog 91 #[.agg #[.int .i64 a0_0, .string a0_1, .int .i64 a0_2, .slice A0_3 l0_3.length c0_3, .int .i64 a0_4], .int .i64 a1] w fun e w' => e = .returned (.int .i64 r) ∧ Below w.heap.size w w' := by
 have hu58 := Tryd.underlying58; have HR0_3 := Aside0.mk hr0_3; have HC0_3 := Aside0.mk hc0_3; clear hr0_3 hc0_3; have HB := Aside0.mk (Below.refl w.heap.size w); have H : (if (wrap64 (a1 - (a0_1.size : Int))) < 0 then (some (-1)) else ((laws_szByteS.f l0_3 (wrap64 (a1 - (a0_1.size : Int)))).bind fun a2 => (if a2 < 0 then (some (-1)) else (some a2)))) = some r := h; clear h
 by_cases c3 : (wrap64 (a1 - (a0_1.size : Int))) < 0
 ·
  rw [if_pos c3] at H
  have b8 : decide ((wrap64 (a1 - (a0_1.size : Int))) < 0) = true := decide_eq_true c3; clear c3; obtain rfl := Option.some.inj H
  go_enter Tryd.func91, Tryd.ntmps91
  go_wp2_with (first | ((with_reducible refine gd_ 2 rfl ?_); refine bx_ 2 rfl #[.int .i64 a0_0, .string a0_1, .int .i64 a0_2, .slice A0_3 l0_3.length c0_3, .int .i64 a0_4] 58 ?_; intro a3 hg w4 hbox hb; have a0 := Aside0.mk (hbox); have a4 := Aside0.mk ((by rw [hg]; exact (below_size (upH HB.out)) : w.heap.size ≤ a3)); replace HB := Aside0.mk (below_step (upH HB.out) hb); have a5 := a4; clear hb hbox hg; obtain ⟨b9, c0, c1, c2, c4⟩ := cc5_ a0.out; obtain ⟨c5, c6, c8, c9⟩ := cf4_ a0.out; have d0 := blk_frozen a0.out 4))
  go_ret
  exact ⟨by first | rfl | (simp [*, errW_none, errW_some] <;> rfl), by repeat (with_reducible first | exact HB.out | apply below_alloc | apply pw_below_drewN | apply below_drew1 | refine below_set ?_ (Aside0.out ‹_›))⟩
 ·
  rw [if_neg c3] at H
  have b8 : decide ((wrap64 (a1 - (a0_1.size : Int))) < 0) = false := decide_eq_false c3; clear c3; obtain ⟨a2, A6, H⟩ := bindA H; (try dsimp only at H)
  by_cases c7 : a2 < 0
  ·
   rw [if_pos c7] at H
   have d1 : decide (a2 < 0) = true := decide_eq_true c7; clear c7; obtain rfl := Option.some.inj H
   go_enter Tryd.func91, Tryd.ntmps91
   go_wp2_with (first | ((with_reducible refine gd_ 2 rfl ?_); refine bx_ 2 rfl #[.int .i64 a0_0, .string a0_1, .int .i64 a0_2, .slice A0_3 l0_3.length c0_3, .int .i64 a0_4] 58 ?_; intro a3 hg w8 hbox hb; have a0 := Aside0.mk (hbox); have a4 := Aside0.mk ((by rw [hg]; exact (below_size (upH HB.out)) : w.heap.size ≤ a3)); replace HB := Aside0.mk (below_step (upH HB.out) hb); have a5 := a4; clear hb hbox hg; obtain ⟨d2, d3, d4, d5, d6⟩ := cc5_ a0.out; obtain ⟨d7, d8, d9, e0⟩ := cf4_ a0.out; have e1 := blk_frozen a0.out 4) | ((with_reducible refine gc_ 123 rfl ?_); refine gl_ (some 15) rfl Tryd.func123 #[.slice A0_3 l0_3.length c0_3, .int .i64 (wrap64 (a1 - (a0_1.size : Int)))] ?_; (with_reducible refine (laws_szByteS.calls _ _ l0_3 (wrap64 (a1 - (a0_1.size : Int))) a2 _ ?side1 ?side2 A6.out).mono ?_); (case side1 => repeat (first | exact (Kd.C_below HR0_3.out HB.out) | (with_reducible refine Kd.C_alloc ?_ _) | (with_reducible refine Kd.C_drewN ?_ _) | (with_reducible refine Kd.C_drew ?_))); (case side2 => exact HC0_3.out); rintro e w' ⟨rfl, ⟨nd, rfl⟩⟩; refine ⟨_, rfl, ?_⟩))
   go_ret
   exact ⟨by first | rfl | (simp [*, errW_none, errW_some] <;> rfl), by repeat (with_reducible first | exact HB.out | apply below_alloc | apply pw_below_drewN | apply below_drew1 | refine below_set ?_ (Aside0.out ‹_›))⟩
  ·
   rw [if_neg c7] at H
   have d1 : decide (a2 < 0) = false := decide_eq_false c7; clear c7; obtain rfl := Option.some.inj H
   go_enter Tryd.func91, Tryd.ntmps91
   go_wp2_with (first | ((with_reducible refine gd_ 2 rfl ?_); refine bx_ 2 rfl #[.int .i64 a0_0, .string a0_1, .int .i64 a0_2, .slice A0_3 l0_3.length c0_3, .int .i64 a0_4] 58 ?_; intro a3 hg w10 hbox hb; have a0 := Aside0.mk (hbox); have a4 := Aside0.mk ((by rw [hg]; exact (below_size (upH HB.out)) : w.heap.size ≤ a3)); replace HB := Aside0.mk (below_step (upH HB.out) hb); have a5 := a4; clear hb hbox hg; obtain ⟨a8, a9, b0, b1, b2⟩ := cc5_ a0.out; obtain ⟨b3, b4, b5, b6⟩ := cf4_ a0.out; have b7 := blk_frozen a0.out 4) | ((with_reducible refine gc_ 123 rfl ?_); refine gl_ (some 15) rfl Tryd.func123 #[.slice A0_3 l0_3.length c0_3, .int .i64 (wrap64 (a1 - (a0_1.size : Int)))] ?_; (with_reducible refine (laws_szByteS.calls _ _ l0_3 (wrap64 (a1 - (a0_1.size : Int))) a2 _ ?side1 ?side2 A6.out).mono ?_); (case side1 => repeat (first | exact (Kd.C_below HR0_3.out HB.out) | (with_reducible refine Kd.C_alloc ?_ _) | (with_reducible refine Kd.C_drewN ?_ _) | (with_reducible refine Kd.C_drew ?_))); (case side2 => exact HC0_3.out); rintro e w' ⟨rfl, ⟨nd, rfl⟩⟩; refine ⟨_, rfl, ?_⟩))
   go_ret
   exact ⟨by first | rfl | (simp [*, errW_none, errW_some] <;> rfl), by repeat (with_reducible first | exact HB.out | apply below_alloc | apply pw_below_drewN | apply below_drew1 | refine below_set ?_ (Aside0.out ‹_›))⟩
end
section
def laws_szHouEvent.f (a0_0 : Int) (a0_1 : Int) (a0_2 : ByteArray) (a0_3 : Int) (l0_4 : List Int) (a0_5 : Int) (a1 : Int) : Option (Int) := (laws_szTenEvent.f a0_1 a0_2 a0_3 l0_4 a0_5 a1).bind fun t102 => (if t102 < 0 then (some (-1)) else (some t102))
set_option maxHeartbeats 8000000 in
set_option maxRecDepth 100000 in
theorem laws_szHouEvent.calls (a0_0 : Int) (a0_1 : Int) (a0_2 : ByteArray) (a0_3 : Int) (A0_4 : Option Addr) (c0_4 : Nat) (l0_4 : List Int) (a0_5 : Int) (a1 : Int) (r : Int) (w : World) (hr0_4 : Kd.C (Kd.int .u8) w A0_4 l0_4.length l0_4) (hc0_4 : l0_4.length ≤ c0_4) (h : laws_szHouEvent.f a0_0 a0_1 a0_2 a0_3 l0_4 a0_5 a1 = some r) :
    Calls Tryd.prog 42 #[.agg #[.int .i64 a0_0, .int .i64 a0_1, .string a0_2, .int .i64 a0_3, .slice A0_4 l0_4.length c0_4, .int .i64 a0_5], .int .i64 a1] w fun e w' => e = .returned (.int .i64 r) ∧ Below w.heap.size w w' := by
  have hu60 := Tryd.underlying60; have hu58 := Tryd.underlying58; have HR0_4 := Aside0.mk hr0_4; have HC0_4 := Aside0.mk hc0_4; clear hr0_4 hc0_4; have HB := Aside0.mk (Below.refl w.heap.size w); have H : ((laws_szTenEvent.f a0_1 a0_2 a0_3 l0_4 a0_5 a1).bind fun t102 => (if t102 < 0 then (some (-1)) else (some t102))) = some r := h; clear h; obtain ⟨t102, A3, H⟩ := bindA H; (try dsimp only at H)
  by_cases c4 : t102 < 0
  · rw [if_pos c4] at H
    have c4b0 : decide (t102 < 0) = true := decide_eq_true c4; clear c4; obtain rfl := Option.some.inj H
    go_enter Tryd.func42, Tryd.ntmps42
    go_wp2_with (first | ((with_reducible refine gd_ 2 rfl ?_); refine bx_ 2 rfl #[.int .i64 a0_0, .int .i64 a0_1, .string a0_2, .int .i64 a0_3, .slice A0_4 l0_4.length c0_4, .int .i64 a0_5] 60 ?_; intro gb101 hg w5 hbox hb; have BK101 := Aside0.mk (hbox); have GW101 := Aside0.mk ((by rw [hg]; exact (below_size (upH HB.out)) : w.heap.size ≤ gb101)); replace HB := Aside0.mk (below_step (upH HB.out) hb); have GE101 := GW101; clear hb hbox hg; obtain ⟨hcz6_0, hcz6_1, hcz6_2, hcz6_3, hcz6_4, hcz6_5⟩ := cc6_ BK101.out; obtain ⟨hfz6_0, hfz6_1, hfz6_2, hfz6_3, hfz6_4⟩ := cf5_ BK101.out; have hfz6_5 := blk_frozen BK101.out 5) | ((with_reducible refine gc_ 91 rfl ?_); refine gl_ (some 8) rfl Tryd.func91 #[.agg #[.int .i64 a0_1, .string a0_2, .int .i64 a0_3, .slice A0_4 l0_4.length c0_4, .int .i64 a0_5], .int .i64 a1] ?_; (with_reducible refine (laws_szTenEvent.calls a0_1 a0_2 a0_3 _ _ l0_4 a0_5 a1 t102 _ ?side1 ?side2 A3.out).mono ?_); (case side1 => repeat (first | exact (Kd.C_below HR0_4.out HB.out) | (with_reducible refine Kd.C_alloc ?_ _) | (with_reducible refine Kd.C_drewN ?_ _) | (with_reducible refine Kd.C_drew ?_))); (case side2 => exact HC0_4.out); rintro e w7 ⟨rfl, hb⟩; refine ⟨_, rfl, ?_⟩; replace BK101 := Aside0.mk (blk_below (upB BK101.out) hb); replace HB := Aside0.mk (below_step (by repeat (with_reducible first | exact HB.out | apply below_alloc | apply pw_below_drewN | apply below_drew1 | refine below_set ?_ (Aside0.out ‹_›))) hb); (try clear hb)))
    go_ret
    exact ⟨by first | rfl | (simp [*, errW_none, errW_some] <;> rfl), by repeat (with_reducible first | exact HB.out | apply below_alloc | apply pw_below_drewN | apply below_drew1 | refine below_set ?_ (Aside0.out ‹_›))⟩
  · rw [if_neg c4] at H
    have c4b0 : decide (t102 < 0) = false := decide_eq_false c4; clear c4; obtain rfl := Option.some.inj H
    go_enter Tryd.func42, Tryd.ntmps42
    go_wp2_with (first | ((with_reducible refine gd_ 2 rfl ?_); refine bx_ 2 rfl #[.int .i64 a0_0, .int .i64 a0_1, .string a0_2, .int .i64 a0_3, .slice A0_4 l0_4.length c0_4, .int .i64 a0_5] 60 ?_; intro gb101 hg w8 hbox hb; have BK101 := Aside0.mk (hbox); have GW101 := Aside0.mk ((by rw [hg]; exact (below_size (upH HB.out)) : w.heap.size ≤ gb101)); replace HB := Aside0.mk (below_step (upH HB.out) hb); have GE101 := GW101; clear hb hbox hg; obtain ⟨hcz9_0, hcz9_1, hcz9_2, hcz9_3, hcz9_4, hcz9_5⟩ := cc6_ BK101.out; obtain ⟨hfz9_0, hfz9_1, hfz9_2, hfz9_3, hfz9_4⟩ := cf5_ BK101.out; have hfz9_5 := blk_frozen BK101.out 5) | ((with_reducible refine gc_ 91 rfl ?_); refine gl_ (some 8) rfl Tryd.func91 #[.agg #[.int .i64 a0_1, .string a0_2, .int .i64 a0_3, .slice A0_4 l0_4.length c0_4, .int .i64 a0_5], .int .i64 a1] ?_; (with_reducible refine (laws_szTenEvent.calls a0_1 a0_2 a0_3 _ _ l0_4 a0_5 a1 t102 _ ?side1 ?side2 A3.out).mono ?_); (case side1 => repeat (first | exact (Kd.C_below HR0_4.out HB.out) | (with_reducible refine Kd.C_alloc ?_ _) | (with_reducible refine Kd.C_drewN ?_ _) | (with_reducible refine Kd.C_drew ?_))); (case side2 => exact HC0_4.out); rintro e w10 ⟨rfl, hb⟩; refine ⟨_, rfl, ?_⟩; replace BK101 := Aside0.mk (blk_below (upB BK101.out) hb); replace HB := Aside0.mk (below_step (by repeat (with_reducible first | exact HB.out | apply below_alloc | apply pw_below_drewN | apply below_drew1 | refine below_set ?_ (Aside0.out ‹_›))) hb); (try clear hb)))
    go_ret
    exact ⟨by first | rfl | (simp [*, errW_none, errW_some] <;> rfl), by repeat (with_reducible first | exact HB.out | apply below_alloc | apply pw_below_drewN | apply below_drew1 | refine below_set ?_ (Aside0.out ‹_›))⟩
end
section
def spec_l1In.f (a0 : Int) (a1 : Int) (a2 : Int) : Option (Bool) := if a0 ≥ a1 then (some (decide (a0 ≤ a2))) else (some false)
set_option maxHeartbeats 8000000 in
set_option maxRecDepth 100000 in
theorem spec_l1In.calls (a0 : Int) (a1 : Int) (a2 : Int) (r : Bool) (w : World) (h : spec_l1In.f a0 a1 a2 = some r) :
    Calls Tryd.prog 64 #[.int .i64 a0, .int .i64 a1, .int .i64 a2] w fun e w' => e = .returned (.bool r) ∧ Drawn0 w w' := by
  have H : (if a0 ≥ a1 then (some (decide (a0 ≤ a2))) else (some false)) = some r := h; clear h
  by_cases c4 : a0 ≥ a1
  · rw [if_pos c4] at H
    have c4b0 : decide (a1 ≤ a0) = true := decide_eq_true c4; clear c4; obtain rfl := Option.some.inj H
    go_enter Tryd.func64, Tryd.ntmps64
    go_wp2
    go_ret
    exact ⟨by first | rfl | (simp; done) | (simp [*]; done), by repeat (first | exact Drawn0.refl _ | apply Drawn0.step)⟩
  · rw [if_neg c4] at H
    have c4b0 : decide (a1 ≤ a0) = false := decide_eq_false c4; clear c4; obtain rfl := Option.some.inj H
    go_enter Tryd.func64, Tryd.ntmps64
    go_wp2
    go_ret
    exact ⟨by first | rfl | (simp; done) | (simp [*]; done), by repeat (first | exact Drawn0.refl _ | apply Drawn0.step)⟩
end
section
def spec_l7Plain.l0 : Nat → Int → ByteArray → Option (ByteArray)
 | 0, _, _ => none
 | k + 1, x0, x3 => if x0 > 9 then ((some (([(wrap64 (48 + (Int.tmod x0 10))) % 256] : List Int) : List Int)).bind fun y101 => (if (strOfNums y101).size + x3.size ≤ 9223372036854775807 then (spec_l7Plain.l0 k (wrap64 (Int.tdiv x0 10)) ((strOfNums y101) ++ x3)) else (none))) else ((some (([(wrap64 (48 + x0)) % 256] : List Int) : List Int)).bind fun y104 => (if (strOfNums y104).size + x3.size ≤ 9223372036854775807 then (some ((strOfNums y104) ++ x3)) else (none)))
def spec_l7Plain.f (k : Nat) (a0 : Int) : Option (ByteArray) := spec_l7Plain.l0 k a0 (⟨#[]⟩ : ByteArray)
set_option maxHeartbeats 8000000 in
set_option maxRecDepth 100000 in
theorem spec_l7Plain.calls (k : Nat) (a0 : Int) (r : ByteArray) (w : World) (h : spec_l7Plain.f k a0 = some r) :
  Calls Tryd.prog 52 #[.int .i64 a0] w fun e w' => e = .returned (.string r) ∧ Below w.heap.size w w' := by
 have HB := Aside0.mk (Below.refl w.heap.size w); have H : (spec_l7Plain.l0 k a0 (⟨#[]⟩ : ByteArray)) = some r := h; clear h; have H' := Aside0.mk H; clear H
 go_enter Tryd.func52, Tryd.ntmps52
 go_wp2
 (try simp only [Act.put, List.setIfInBounds_toArray, List.set_cons_zero, List.set_cons_succ])
 go_loopg [0, 3] k (fun kq v0 v3 w' => ∃ (a1 : Int) (a2 : ByteArray), v0 = .int .i64 a1 ∧ v3 = .string a2 ∧ Aside0 (spec_l7Plain.l0 kq a1 a2 = some r) ∧ Aside0 (kq ≤ k) ∧ Aside0 (Below w.heap.size w w'))
 case atStart => exact ⟨(a0), ((⟨#[]⟩ : ByteArray)), (by first | rfl | (simp; done) | (simp [*]; done)), (by first | rfl | (simp; done) | (simp [*]; done)), H', ⟨Nat.le_refl _⟩, ⟨upH HB.out⟩⟩
 case round =>
  clear H'; obtain ⟨a1, a2, rfl, rfl, HA, HK1, HB⟩ := hrel
  cases gk with
  | zero => exact absurd HA.out (by simp [spec_l7Plain.l0])
  | succ k1 =>
   have H := HA.out; clear HA
   simp only [spec_l7Plain.l0] at H
   by_cases c2 : a1 > 9
   ·
    rw [if_pos c2] at H
    have a5 : decide (9 < a1) = true := decide_eq_true c2; clear c2; obtain ⟨y101, hy101⟩ : ∃ y_ : List Int, y_ = (([(wrap64 (48 + (Int.tmod a1 10))) % 256] : List Int)) := ⟨_, rfl⟩
    replace H : (if (strOfNums y101).size + a2.size ≤ 9223372036854775807 then (spec_l7Plain.l0 k1 (wrap64 (Int.tdiv a1 10)) ((strOfNums y101) ++ a2)) else (none)) = some r := by first | (rw [hy101]; with_reducible exact H) | (have H2_ := (Option.bind_some _ _).symm.trans H; rw [hy101]; with_reducible exact H2_) | (have H2_ := (Option.bind_some _ _).symm.trans H; with_reducible exact H2_) | with_reducible exact H | (rw [hy101]; exact H) | exact H
    have Ny101 := Aside0.mk hy101; clear hy101
    by_cases c3 : (strOfNums y101).size + a2.size ≤ 9223372036854775807
    ·
     rw [if_pos c3] at H
     have a6 := eq_true c3; have a7 : decide ((strOfNums y101).size + a2.size ≤ 9223372036854775807) = true := decide_eq_true c3
     try have a8 : (9223372036854775807 < (strOfNums y101).size + a2.size) = False := eq_false (Nat.not_lt.2 c3)
     have H' := Aside0.mk H; clear H
     go_wp2_with (first | ((with_reducible refine gd_ 10 rfl ?_); refine Kd.R_lit (Kd.int .u8) _ 5 ?hg (N := 10) ?hd (xs := ([(wrap64 (48 + (Int.tmod a1 10))) % 256] : List Int)) (inner := [.int .u8 ((wrap64 (48 + (Int.tmod a1 10))) % 256)]) (ok := fun _ => True) (okp := fun _ => True) ?hr ?hp (fun _ hk => hk) trivial (Below.refl _ _) (Nat.le_refl _) (by simp) ?_; (case hd => rfl); (case hg => rfl); (case hr => first | (go_simp; done) | (go_simp; rfl)); (case hp => exact (Reps.one (show Kd.M (Kd.int .u8) _ _ _ ((wrap64 (48 + (Int.tmod a1 10))) % 256) [.int .u8 ((wrap64 (48 + (Int.tmod a1 10))) % 256)] from rfl) (Reps.none _ _))); intro a9 w4 ho5 hb hg_ hnew_; clear hg_ hnew_; (first | rw [← Ny101.out] at ho5 | (simp only [Int.reduceToNat] at ho5; rw [← Ny101.out] at ho5)); have a3 := Aside0.mk (Kd.R_lower ho5 (below_size (upH HB.out))); replace HB := Aside0.mk (below_step (upH HB.out) hb); clear hb ho5; have hcv6 := own_string (P := Tryd.prog) Tryd.underlying39 Tryd.underlying5 Tryd.underlying9 (Kd.own_of_R a3.out)))
     go_roundg k1
     case measure => have := HK1.out; omega
     case rel => exact ⟨(wrap64 (Int.tdiv a1 10)), ((strOfNums y101) ++ a2), (by first | rfl | (simp; done) | (simp [*]; done)), (by first | rfl | (simp; done) | (simp [*]; done)), H', ⟨by have := HK1.out; omega⟩, ⟨upH HB.out⟩⟩
    ·
     rw [if_neg c3] at H
     exact absurd H (by simp)
   ·
    rw [if_neg c2] at H
    have a5 : decide (9 < a1) = false := decide_eq_false c2; clear c2; obtain ⟨y104, hy104⟩ : ∃ y_ : List Int, y_ = (([(wrap64 (48 + a1)) % 256] : List Int)) := ⟨_, rfl⟩
    replace H : (if (strOfNums y104).size + a2.size ≤ 9223372036854775807 then (some ((strOfNums y104) ++ a2)) else (none)) = some r := by first | (rw [hy104]; with_reducible exact H) | (have H2_ := (Option.bind_some _ _).symm.trans H; rw [hy104]; with_reducible exact H2_) | (have H2_ := (Option.bind_some _ _).symm.trans H; with_reducible exact H2_) | with_reducible exact H | (rw [hy104]; exact H) | exact H
    have Ny104 := Aside0.mk hy104; clear hy104
    by_cases c7 : (strOfNums y104).size + a2.size ≤ 9223372036854775807
    ·
     rw [if_pos c7] at H
     have b0 := eq_true c7; have b1 : decide ((strOfNums y104).size + a2.size ≤ 9223372036854775807) = true := decide_eq_true c7
     try have b2 : (9223372036854775807 < (strOfNums y104).size + a2.size) = False := eq_false (Nat.not_lt.2 c7)
     obtain rfl := Option.some.inj H
     go_wp2_with (first | ((with_reducible refine gd_ 19 rfl ?_); refine Kd.R_lit (Kd.int .u8) _ 5 ?hg (N := 19) ?hd (xs := ([(wrap64 (48 + a1)) % 256] : List Int)) (inner := [.int .u8 ((wrap64 (48 + a1)) % 256)]) (ok := fun _ => True) (okp := fun _ => True) ?hr ?hp (fun _ hk => hk) trivial (Below.refl _ _) (Nat.le_refl _) (by simp) ?_; (case hd => rfl); (case hg => rfl); (case hr => first | (go_simp; done) | (go_simp; rfl)); (case hp => exact (Reps.one (show Kd.M (Kd.int .u8) _ _ _ ((wrap64 (48 + a1)) % 256) [.int .u8 ((wrap64 (48 + a1)) % 256)] from rfl) (Reps.none _ _))); intro b3 w8 ho9 hb hg_ hnew_; clear hg_ hnew_; (first | rw [← Ny104.out] at ho9 | (simp only [Int.reduceToNat] at ho9; rw [← Ny104.out] at ho9)); have a4 := Aside0.mk (Kd.R_lower ho9 (below_size (upH HB.out))); replace HB := Aside0.mk (below_step (upH HB.out) hb); clear hb ho9; have hcv10 := own_string (P := Tryd.prog) Tryd.underlying39 Tryd.underlying5 Tryd.underlying9 (Kd.own_of_R a4.out)))
     go_ret
     exact ⟨by first | rfl | (simp [*, errW_none, errW_some] <;> rfl), upH HB.out⟩
    ·
     rw [if_neg c7] at H
     exact absurd H (by simp)
end
section
def spec_HexText.l0 : Nat → List Int → ByteArray → Int → Option (ByteArray)
 | 0, _, _, _ => none
 | k + 1, x0, x3, x4 => if x4 < (x0.length : Int) then (if 0 ≤ x4 then (if 0 ≤ ((Int.tdiv (rd x0 x4) 16) % 256) then (if ((Int.tdiv (rd x0 x4) 16) % 256) ≤ ((((Int.tdiv (rd x0 x4) 16) % 256) + 1) % 256) then (if ((((Int.tdiv (rd x0 x4) 16) % 256) + 1) % 256) ≤ 16 then (if x3.size + ((⟨#[48, 49, 50, 51, 52, 53, 54, 55, 56, 57, 97, 98, 99, 100, 101, 102]⟩ : ByteArray).extract (((Int.tdiv (rd x0 x4) 16) % 256) : Int).toNat (((((Int.tdiv (rd x0 x4) 16) % 256) + 1) % 256) : Int).toNat).size ≤ 9223372036854775807 then (if 0 ≤ (Int.tmod (rd x0 x4) 16) then (if (Int.tmod (rd x0 x4) 16) ≤ (((Int.tmod (rd x0 x4) 16) + 1) % 256) then (if (((Int.tmod (rd x0 x4) 16) + 1) % 256) ≤ 16 then (if (x3 ++ ((⟨#[48, 49, 50, 51, 52, 53, 54, 55, 56, 57, 97, 98, 99, 100, 101, 102]⟩ : ByteArray).extract (((Int.tdiv (rd x0 x4) 16) % 256) : Int).toNat (((((Int.tdiv (rd x0 x4) 16) % 256) + 1) % 256) : Int).toNat)).size + ((⟨#[48, 49, 50, 51, 52, 53, 54, 55, 56, 57, 97, 98, 99, 100, 101, 102]⟩ : ByteArray).extract ((Int.tmod (rd x0 x4) 16) : Int).toNat ((((Int.tmod (rd x0 x4) 16) + 1) % 256) : Int).toNat).size ≤ 9223372036854775807 then (spec_HexText.l0 k x0 ((x3 ++ ((⟨#[48, 49, 50, 51, 52, 53, 54, 55, 56, 57, 97, 98, 99, 100, 101, 102]⟩ : ByteArray).extract (((Int.tdiv (rd x0 x4) 16) % 256) : Int).toNat (((((Int.tdiv (rd x0 x4) 16) % 256) + 1) % 256) : Int).toNat)) ++ ((⟨#[48, 49, 50, 51, 52, 53, 54, 55, 56, 57, 97, 98, 99, 100, 101, 102]⟩ : ByteArray).extract ((Int.tmod (rd x0 x4) 16) : Int).toNat ((((Int.tmod (rd x0 x4) 16) + 1) % 256) : Int).toNat)) (wrap64 (x4 + 1))) else (none)) else (none)) else (none)) else (none)) else (none)) else (none)) else (none)) else (none)) else (none)) else (some x3)
def spec_HexText.f (k : Nat) (l0 : List Int) : Option (ByteArray) := spec_HexText.l0 k l0 (⟨#[]⟩ : ByteArray) 0
set_option maxHeartbeats 8000000 in
set_option maxRecDepth 100000 in
theorem spec_HexText.calls (k : Nat) (A0 : Option Addr) (c0 : Nat) (l0 : List Int) (r : ByteArray) (w : World) (hr0 : Kd.C (Kd.int .u8) w A0 l0.length l0) (hc0 : l0.length ≤ c0) (h : spec_HexText.f k l0 = some r) :
  Calls Tryd.prog 92 #[.slice A0 l0.length c0] w fun e w' => e = .returned (.string r) ∧ Drawn0 w w' := by
 have HR0 := Aside0.mk hr0; have HC0 := Aside0.mk hc0; clear hr0 hc0; have H : (spec_HexText.l0 k l0 (⟨#[]⟩ : ByteArray) 0) = some r := h; clear h; have H' := Aside0.mk H; clear H
 go_enter Tryd.func92, Tryd.ntmps92
 go_wp2
 repeat (go_quiet (fail); try go_wp2)
 (try simp only [Act.put, List.setIfInBounds_toArray, List.set_cons_zero, List.set_cons_succ])
 go_loopg [3, 4] k (fun kq v3 v4 w' => ∃ (a2 : ByteArray) (a1 : Int), v3 = .string a2 ∧ v4 = .int .i64 a1 ∧ Aside0 (spec_HexText.l0 kq l0 a2 a1 = some r) ∧ Aside0 (kq ≤ k) ∧ Drawn0 w w')
 case atStart => exact ⟨((⟨#[]⟩ : ByteArray)), (0), (by first | rfl | (simp; done) | (simp [*]; done)), (by first | rfl | (simp; done) | (simp [*]; done)), H', ⟨Nat.le_refl _⟩, by repeat (first | exact Drawn0.refl _ | apply Drawn0.step)⟩
 case round =>
  clear H'; obtain ⟨a2, a1, rfl, rfl, HA, HK1, ⟨m1, rfl⟩⟩ := hrel
  cases gk with
  | zero => exact absurd HA.out (by simp [spec_HexText.l0])
  | succ k1 =>
   have H := HA.out; clear HA
   simp only [spec_HexText.l0] at H
   by_cases c2 : a1 < (l0.length : Int)
   ·
    rw [if_pos c2] at H
    have a8 : decide (a1 < (l0.length : Int)) = true := decide_eq_true c2; clear c2
    by_cases c3 : 0 ≤ a1
    ·
     rw [if_pos c3] at H
     replace c3 := decide_eq_true c3; obtain ⟨ji4, hji4⟩ : ∃ j_ : Int, ((Int.tdiv (rd l0 a1) 16) % 256) = j_ := ⟨_, rfl⟩
     try have hji4w : (IntKind.u8.wrap ((Int.tdiv (rd l0 a1) 16))) = ji4 := (IntKind.wrap_u8 _).trans hji4
     try have hji4x : IntKind.u8.wrap (ji4 + 1) = (ji4 + 1) % 256 := IntKind.wrap_u8 _
     replace H : (if 0 ≤ (ji4) then (if (ji4) ≤ (((ji4) + 1) % 256) then (if (((ji4) + 1) % 256) ≤ 16 then (if a2.size + ((⟨#[48, 49, 50, 51, 52, 53, 54, 55, 56, 57, 97, 98, 99, 100, 101, 102]⟩ : ByteArray).extract ((ji4) : Int).toNat ((((ji4) + 1) % 256) : Int).toNat).size ≤ 9223372036854775807 then (if 0 ≤ (Int.tmod (rd l0 a1) 16) then (if (Int.tmod (rd l0 a1) 16) ≤ (((Int.tmod (rd l0 a1) 16) + 1) % 256) then (if (((Int.tmod (rd l0 a1) 16) + 1) % 256) ≤ 16 then (if (a2 ++ ((⟨#[48, 49, 50, 51, 52, 53, 54, 55, 56, 57, 97, 98, 99, 100, 101, 102]⟩ : ByteArray).extract ((ji4) : Int).toNat ((((ji4) + 1) % 256) : Int).toNat)).size + ((⟨#[48, 49, 50, 51, 52, 53, 54, 55, 56, 57, 97, 98, 99, 100, 101, 102]⟩ : ByteArray).extract ((Int.tmod (rd l0 a1) 16) : Int).toNat ((((Int.tmod (rd l0 a1) 16) + 1) % 256) : Int).toNat).size ≤ 9223372036854775807 then (spec_HexText.l0 k1 l0 ((a2 ++ ((⟨#[48, 49, 50, 51, 52, 53, 54, 55, 56, 57, 97, 98, 99, 100, 101, 102]⟩ : ByteArray).extract ((ji4) : Int).toNat ((((ji4) + 1) % 256) : Int).toNat)) ++ ((⟨#[48, 49, 50, 51, 52, 53, 54, 55, 56, 57, 97, 98, 99, 100, 101, 102]⟩ : ByteArray).extract ((Int.tmod (rd l0 a1) 16) : Int).toNat ((((Int.tmod (rd l0 a1) 16) + 1) % 256) : Int).toNat)) (wrap64 (a1 + 1))) else (none)) else (none)) else (none)) else (none)) else (none)) else (none)) else (none)) else (none)) = some r := by first | (rw [hji4] at H; exact H) | (simp only [hji4] at H ⊢; exact H)
     by_cases c5 : 0 ≤ (ji4)
     ·
      rw [if_pos c5] at H
      have c4 := eq_true c5; replace c5 := decide_eq_true c5
      by_cases c6 : (ji4) ≤ (((ji4) + 1) % 256)
      ·
       rw [if_pos c6] at H
       have c9 := eq_true c6; have d0 : decide ((ji4) ≤ (((ji4) + 1) % 256)) = true := decide_eq_true c6
       by_cases c7 : (((ji4) + 1) % 256) ≤ 16
       ·
        rw [if_pos c7] at H
        have d1 := eq_true c7; have d2 : decide ((((ji4) + 1) % 256) ≤ 16) = true := decide_eq_true c7
        by_cases c8 : a2.size + ((⟨#[48, 49, 50, 51, 52, 53, 54, 55, 56, 57, 97, 98, 99, 100, 101, 102]⟩ : ByteArray).extract ((ji4) : Int).toNat ((((ji4) + 1) % 256) : Int).toNat).size ≤ 9223372036854775807
        ·
         rw [if_pos c8] at H
         have d3 := eq_true c8; have d4 : decide (a2.size + ((⟨#[48, 49, 50, 51, 52, 53, 54, 55, 56, 57, 97, 98, 99, 100, 101, 102]⟩ : ByteArray).extract ((ji4) : Int).toNat ((((ji4) + 1) % 256) : Int).toNat).size ≤ 9223372036854775807) = true := decide_eq_true c8
         try have d5 : (9223372036854775807 < a2.size + ((⟨#[48, 49, 50, 51, 52, 53, 54, 55, 56, 57, 97, 98, 99, 100, 101, 102]⟩ : ByteArray).extract ((ji4) : Int).toNat ((((ji4) + 1) % 256) : Int).toNat).size) = False := eq_false (Nat.not_lt.2 c8)
         obtain ⟨ji9, hji9⟩ : ∃ j_ : Int, (Int.tmod (rd l0 a1) 16) = j_ := ⟨_, rfl⟩
         try have hji9x : IntKind.u8.wrap (ji9 + 1) = (ji9 + 1) % 256 := IntKind.wrap_u8 _
         replace H : (if 0 ≤ (ji9) then (if (ji9) ≤ (((ji9) + 1) % 256) then (if (((ji9) + 1) % 256) ≤ 16 then (if (a2 ++ ((⟨#[48, 49, 50, 51, 52, 53, 54, 55, 56, 57, 97, 98, 99, 100, 101, 102]⟩ : ByteArray).extract ((ji4) : Int).toNat ((((ji4) + 1) % 256) : Int).toNat)).size + ((⟨#[48, 49, 50, 51, 52, 53, 54, 55, 56, 57, 97, 98, 99, 100, 101, 102]⟩ : ByteArray).extract ((ji9) : Int).toNat ((((ji9) + 1) % 256) : Int).toNat).size ≤ 9223372036854775807 then (spec_HexText.l0 k1 l0 ((a2 ++ ((⟨#[48, 49, 50, 51, 52, 53, 54, 55, 56, 57, 97, 98, 99, 100, 101, 102]⟩ : ByteArray).extract ((ji4) : Int).toNat ((((ji4) + 1) % 256) : Int).toNat)) ++ ((⟨#[48, 49, 50, 51, 52, 53, 54, 55, 56, 57, 97, 98, 99, 100, 101, 102]⟩ : ByteArray).extract ((ji9) : Int).toNat ((((ji9) + 1) % 256) : Int).toNat)) (wrap64 (a1 + 1))) else (none)) else (none)) else (none)) else (none)) = some r := by first | (rw [hji9] at H; exact H) | (simp only [hji9] at H ⊢; exact H)
         by_cases c10 : 0 ≤ (ji9)
         ·
          rw [if_pos c10] at H
          have b3 := eq_true c10; replace c10 := decide_eq_true c10
          by_cases c11 : (ji9) ≤ (((ji9) + 1) % 256)
          ·
           rw [if_pos c11] at H
           have b4 := eq_true c11; have b5 : decide ((ji9) ≤ (((ji9) + 1) % 256)) = true := decide_eq_true c11
           by_cases c12 : (((ji9) + 1) % 256) ≤ 16
           ·
            rw [if_pos c12] at H
            have b6 := eq_true c12; have b7 : decide ((((ji9) + 1) % 256) ≤ 16) = true := decide_eq_true c12
            by_cases c13 : (a2 ++ ((⟨#[48, 49, 50, 51, 52, 53, 54, 55, 56, 57, 97, 98, 99, 100, 101, 102]⟩ : ByteArray).extract ((ji4) : Int).toNat ((((ji4) + 1) % 256) : Int).toNat)).size + ((⟨#[48, 49, 50, 51, 52, 53, 54, 55, 56, 57, 97, 98, 99, 100, 101, 102]⟩ : ByteArray).extract ((ji9) : Int).toNat ((((ji9) + 1) % 256) : Int).toNat).size ≤ 9223372036854775807
            ·
             rw [if_pos c13] at H
             have b8 := eq_true c13; have b9 : decide ((a2 ++ ((⟨#[48, 49, 50, 51, 52, 53, 54, 55, 56, 57, 97, 98, 99, 100, 101, 102]⟩ : ByteArray).extract ((ji4) : Int).toNat ((((ji4) + 1) % 256) : Int).toNat)).size + ((⟨#[48, 49, 50, 51, 52, 53, 54, 55, 56, 57, 97, 98, 99, 100, 101, 102]⟩ : ByteArray).extract ((ji9) : Int).toNat ((((ji9) + 1) % 256) : Int).toNat).size ≤ 9223372036854775807) = true := decide_eq_true c13
             try have c1 : (9223372036854775807 < (a2 ++ ((⟨#[48, 49, 50, 51, 52, 53, 54, 55, 56, 57, 97, 98, 99, 100, 101, 102]⟩ : ByteArray).extract ((ji4) : Int).toNat ((((ji4) + 1) % 256) : Int).toNat)).size + ((⟨#[48, 49, 50, 51, 52, 53, 54, 55, 56, 57, 97, 98, 99, 100, 101, 102]⟩ : ByteArray).extract ((ji9) : Int).toNat ((((ji9) + 1) % 256) : Int).toNat).size) = False := eq_false (Nat.not_lt.2 c13)
             try (have a3 := c13; simp only [ByteArray.size_append', ByteArray.size_mk', List.size_toArray, List.length_cons, List.length_nil, Nat.zero_add, Nat.reduceAdd] at a3; replace a3 := eq_false (Nat.not_lt.2 a3))
             have H' := Aside0.mk H; clear H; have p101 : 0 ≤ (a1 : Int) := of_decide_eq_true (by assumption); have q101 : a1 < (l0.length : Int) := of_decide_eq_true (by assumption); obtain ⟨ad101, a9, a4⟩ := Kd.at_int HR0.out a1 p101 q101
             cases a9
             replace p101 := eq_true p101; replace q101 := eq_true q101; have p102 : 0 ≤ (a1 : Int) := of_decide_eq_true (by assumption); have q102 : a1 < (l0.length : Int) := of_decide_eq_true (by assumption); obtain ⟨ad102, b0, a5⟩ := Kd.at_int HR0.out a1 p102 q102; obtain rfl : ad101 = ad102 := (by injection b0); replace p102 := eq_true p102; replace q102 := eq_true q102; have p103 : 0 ≤ (a1 : Int) := of_decide_eq_true (by assumption); have q103 : a1 < (l0.length : Int) := of_decide_eq_true (by assumption); obtain ⟨ad103, b1, a6⟩ := Kd.at_int HR0.out a1 p103 q103; obtain rfl : ad101 = ad103 := (by injection b1); replace p103 := eq_true p103; replace q103 := eq_true q103; have p104 : 0 ≤ (a1 : Int) := of_decide_eq_true (by assumption); have q104 : a1 < (l0.length : Int) := of_decide_eq_true (by assumption); obtain ⟨ad104, b2, a7⟩ := Kd.at_int HR0.out a1 p104 q104; obtain rfl : ad101 = ad104 := (by injection b2); replace p104 := eq_true p104; replace q104 := eq_true q104
             go_wp2
             repeat (go_quiet (fail); try go_wp2)
             go_roundg k1
             case measure => have := HK1.out; omega
             case rel => exact ⟨((a2 ++ ((⟨#[48, 49, 50, 51, 52, 53, 54, 55, 56, 57, 97, 98, 99, 100, 101, 102]⟩ : ByteArray).extract ((ji4) : Int).toNat ((((ji4) + 1) % 256) : Int).toNat)) ++ ((⟨#[48, 49, 50, 51, 52, 53, 54, 55, 56, 57, 97, 98, 99, 100, 101, 102]⟩ : ByteArray).extract ((ji9) : Int).toNat ((((ji9) + 1) % 256) : Int).toNat)), (wrap64 (a1 + 1)), (by first | rfl | (simp; done) | (simp only [← hji4, ← hji9] <;> (first | rfl | simp)) | (simp [*]; done)), (by first | rfl | (simp; done) | (simp [*]; done)), H', ⟨by have := HK1.out; omega⟩, by repeat (first | exact Drawn0.refl _ | apply Drawn0.step)⟩
            ·
             rw [if_neg c13] at H
             exact absurd H (by simp)
           ·
            rw [if_neg c12] at H
            exact absurd H (by simp)
          ·
           rw [if_neg c11] at H
           exact absurd H (by simp)
         ·
          rw [if_neg c10] at H
          exact absurd H (by simp)
        ·
         rw [if_neg c8] at H
         exact absurd H (by simp)
       ·
        rw [if_neg c7] at H
        exact absurd H (by simp)
      ·
       rw [if_neg c6] at H
       exact absurd H (by simp)
     ·
      rw [if_neg c5] at H
      exact absurd H (by simp)
    ·
     rw [if_neg c3] at H
     exact absurd H (by simp)
   ·
    rw [if_neg c2] at H
    have a8 : decide (a1 < (l0.length : Int)) = false := decide_eq_false c2; clear c2; obtain rfl := Option.some.inj H
    go_wp2
    repeat (go_quiet (fail); try go_wp2)
    go_ret
    exact ⟨by first | rfl | (simp; done) | (simp [*]; done), by repeat (first | exact Drawn0.refl _ | apply Drawn0.step)⟩
end
section
open Go.Proofs.YtiihhjfdgojkeaaDoorW.PrintWords renaming pw_below_drewN → yaa, below_drew1 → yac, below_alloc → yad, below_set → yae
open Go.Proofs.YtiihhjfdgojkeaaDoorW.PrintWords.Aside0 renaming mk → yab

abbrev q43_0 : Array Bool := Array.replicate 15 false
abbrev q43_1 : Array Bool := bl_ 15 1
abbrev q43_2 : Array Bool := bl_ 15 3
abbrev q43_3 : Array Bool := bl_ 15 7
abbrev q43_4 : Array Bool := bl_ 15 15
abbrev q43_5 : Array Bool := bl_ 15 31
abbrev q43_6 : Array Bool := bl_ 15 543
abbrev q43_7 : Array Bool := bl_ 15 1567
abbrev q43_8 : Array Bool := bl_ 15 1599
abbrev q43_9 : Array Bool := bl_ 15 3647
abbrev q43_10 : Array Bool := bl_ 15 3711
abbrev q43_11 : Array Bool := bl_ 15 3839
abbrev q43_12 : Array Bool := bl_ 15 4095
abbrev q43_13 : Array Bool := bl_ 15 8191
abbrev q43_14 : Array Bool := bl_ 15 16383
abbrev q43_15 : Array Bool := bl_ 15 32767
mutual
def spec_DskText.j0 : Nat → Bool → Int → Int → ByteArray → Int → List Int → Int → Option (ByteArray)
 | 0, _, _, _, _, _, _, _ => none
 | k + 1, x18, x102000, x102001, x102002, x102003, x102004, x102005 => if x18 = true then ((spec_l7Plain.f k x102005).bind fun t103 => (if 5 + t103.size ≤ 9223372036854775807 then (some ((⟨#[116, 105, 109, 101, 32]⟩ : ByteArray) ++ t103)) else (none))) else ((spec_l1In.f x102000 0 2).bind fun t104 => (if t104 = true then ((spec_l1In.f x102003 0 9999).bind fun t105 => (spec_DskText.j1 k (!t105) x102000 x102001 x102002 x102003 x102004 x102005)) else (spec_DskText.j1 k true x102000 x102001 x102002 x102003 x102004 x102005)))
def spec_DskText.j1 : Nat → Bool → Int → Int → ByteArray → Int → List Int → Int → Option (ByteArray)
 | 0, _, _, _, _, _, _, _ => none
 | k + 1, x34, x102000, x102001, x102002, x102003, x102004, x102005 => if x34 = true then (some (⟨#[]⟩ : ByteArray)) else ((spec_l7Plain.f k x102000).bind fun t106 => (if x102001 = 1 then (if 4 + t106.size ≤ 9223372036854775807 then (if ((⟨#[97, 115, 107, 32]⟩ : ByteArray) ++ t106).size + 1 ≤ 9223372036854775807 then (if (((⟨#[97, 115, 107, 32]⟩ : ByteArray) ++ t106) ++ (⟨#[32]⟩ : ByteArray)).size + x102002.size ≤ 9223372036854775807 then (some ((((⟨#[97, 115, 107, 32]⟩ : ByteArray) ++ t106) ++ (⟨#[32]⟩ : ByteArray)) ++ x102002)) else (none)) else (none)) else (none)) else (if x102001 = 2 then (if 6 + t106.size ≤ 9223372036854775807 then (if ((⟨#[114, 101, 112, 108, 121, 32]⟩ : ByteArray) ++ t106).size + 1 ≤ 9223372036854775807 then ((spec_l7Plain.f k x102003).bind fun t107 => (if (((⟨#[114, 101, 112, 108, 121, 32]⟩ : ByteArray) ++ t106) ++ (⟨#[32]⟩ : ByteArray)).size + t107.size ≤ 9223372036854775807 then (if ((((⟨#[114, 101, 112, 108, 121, 32]⟩ : ByteArray) ++ t106) ++ (⟨#[32]⟩ : ByteArray)) ++ t107).size + 1 ≤ 9223372036854775807 then ((spec_HexText.f k x102004).bind fun t108 => (if (((((⟨#[114, 101, 112, 108, 121, 32]⟩ : ByteArray) ++ t106) ++ (⟨#[32]⟩ : ByteArray)) ++ t107) ++ (⟨#[32]⟩ : ByteArray)).size + t108.size ≤ 9223372036854775807 then (some ((((((⟨#[114, 101, 112, 108, 121, 32]⟩ : ByteArray) ++ t106) ++ (⟨#[32]⟩ : ByteArray)) ++ t107) ++ (⟨#[32]⟩ : ByteArray)) ++ t108)) else (none))) else (none)) else (none))) else (none)) else (none)) else (if x102001 = 3 then (if 5 + t106.size ≤ 9223372036854775807 then (if ((⟨#[102, 97, 105, 108, 32]⟩ : ByteArray) ++ t106).size + 1 ≤ 9223372036854775807 then ((spec_l7Plain.f k x102003).bind fun t109 => (if (((⟨#[102, 97, 105, 108, 32]⟩ : ByteArray) ++ t106) ++ (⟨#[32]⟩ : ByteArray)).size + t109.size ≤ 9223372036854775807 then (some ((((⟨#[102, 97, 105, 108, 32]⟩ : ByteArray) ++ t106) ++ (⟨#[32]⟩ : ByteArray)) ++ t109)) else (none))) else (none)) else (none)) else (some (⟨#[]⟩ : ByteArray))))))
end
def spec_DskText.f (k : Nat) (a0_0 : Int) (a0_1 : Int) (a0_2 : ByteArray) (a0_3 : Int) (l0_4 : List Int) (a0_5 : Int) : Option (ByteArray) := if a0_0 = (-1) then (if a0_1 = 4 then ((spec_l1In.f a0_5 0 9999).bind fun t102 => (spec_DskText.j0 k t102 a0_0 a0_1 a0_2 a0_3 l0_4 a0_5)) else (spec_DskText.j0 k false a0_0 a0_1 a0_2 a0_3 l0_4 a0_5)) else (spec_DskText.j0 k false a0_0 a0_1 a0_2 a0_3 l0_4 a0_5)
def spec_DskText.T10 : Bool × List (List Nat × List Nat) := (true, [([], []), ([0], [0]), ([1], [1]), ([], []), ([3], [3]), ([4], [4]), ([5], [5]), ([2, 6], [2, 6]), ([7], [7]), ([], []), ([9], [9]), ([10], [10]), ([11, 6], [11]), ([8, 12], [8, 12]), ([13, 12, 0, 1, 2, 3, 4, 5, 6, 7, 8, 9, 10, 11, 12, 13], [13])])
def spec_DskText.B10 : List Nat := [0, 1, 3, 0, 8, 24, 56, 127, 255, 0, 512, 1536, 3704, 8191, 16383]
theorem spec_DskText.tab10 : rtab .any (opsOf Tryd.f43 10) = spec_DskText.T10 := by kernel_rfl
theorem spec_DskText.bits10 : waitsOk spec_DskText.T10.2 spec_DskText.B10 = true := by kernel_rfl
set_option maxHeartbeats 8000000 in
set_option maxRecDepth 100000 in
theorem spec_DskText.calls (k : Nat) (a0_0 : Int) (a0_1 : Int) (a0_2 : ByteArray) (a0_3 : Int) (A0_4 : Option Addr) (c0_4 : Nat) (l0_4 : List Int) (a0_5 : Int) (r : ByteArray) (w : World) (hr0_4 : Kd.C (Kd.int .u8) w A0_4 l0_4.length l0_4) (hc0_4 : l0_4.length ≤ c0_4) (h : spec_DskText.f k a0_0 a0_1 a0_2 a0_3 l0_4 a0_5 = some r) :
  Calls Tryd.prog 43 #[.agg #[.int .i64 a0_0, .int .i64 a0_1, .string a0_2, .int .i64 a0_3, .slice A0_4 l0_4.length c0_4, .int .i64 a0_5]] w fun e w' => e = .returned (.string r) ∧ Below w.heap.size w w' := by
 have hu65 := Tryd.underlying65; have HR0_4 := yab hr0_4; have HC0_4 := yab hc0_4; clear hr0_4 hc0_4; have HB := yab (Below.refl w.heap.size w); have H : (if a0_0 = (-1) then (if a0_1 = 4 then ((spec_l1In.f a0_5 0 9999).bind fun g3 => (spec_DskText.j0 k g3 a0_0 a0_1 a0_2 a0_3 l0_4 a0_5)) else (spec_DskText.j0 k false a0_0 a0_1 a0_2 a0_3 l0_4 a0_5)) else (spec_DskText.j0 k false a0_0 a0_1 a0_2 a0_3 l0_4 a0_5)) = some r := h; clear h; have HC2 := yab H; clear H
 go_enter Tryd.func43, Tryd.ntmps43
 go_upto_region 1 with (first | ((with_reducible refine gd_ 1 rfl ?_); refine bx_ 1 rfl #[.int .i64 a0_0, .int .i64 a0_1, .string a0_2, .int .i64 a0_3, .slice A0_4 l0_4.length c0_4, .int .i64 a0_5] 65 ?_; intro a8 hg w3 hbox hb; have a6 := yab (hbox); have k9 := yab ((by rw [hg]; exact (below_size (upH HB.out)) : w.heap.size ≤ a8)); replace HB := yab (below_step (upH HB.out) hb); have v9 := k9; clear hb hbox hg))
 (try simp only [Act.put, List.setIfInBounds_toArray, List.set_cons_zero, List.set_cons_succ])
 go_cut [18] (fun v18 wc => ∃ (kq : Nat) (b4 : Bool), v18 = .bool b4 ∧ Aside0 (spec_DskText.j0 kq b4 a0_0 a0_1 a0_2 a0_3 l0_4 a0_5 = some r) ∧ Aside0 (kq ≤ k) ∧ Aside0 (wc.heap[a8]? = some (.cells #[.int .i64 a0_0, .int .i64 a0_1, .string a0_2, .int .i64 a0_3, (.slice A0_4 l0_4.length c0_4), .int .i64 a0_5] 65 (0, 0))) ∧ Aside0 (Below w.heap.size w wc))
 case first =>
  have H := HC2.out; clear HC2
  by_cases c4 : a0_0 = (-1)
  ·
   rw [if_pos c4] at H
   have b3 := beq_iff_eq.mpr c4; have k5 := bne_eq_false_iff_eq.mpr c4; clear c4
   (first | rw [b3] | (simp only [i64_w, i32_w]; rw [b3]) | skip)
   by_cases c5 : a0_1 = 4
   ·
    rw [if_pos c5] at H
    have k6 := beq_iff_eq.mpr c5; have k7 := bne_eq_false_iff_eq.mpr c5; clear c5; obtain ⟨g3, A6, H⟩ := bindA H; (try dsimp only at H); have H' := yab H; clear H; obtain ⟨b5, b6, b7, b8, b9, c0⟩ := cc6_ a6.out; obtain ⟨c2, c3, c7, c8, c9, d0⟩ := cf6_ a6.out
    go_wp2_with (first | (go_at_call 64; (with_reducible refine (spec_l1In.calls a0_5 0 9999 g3 _ A6.out).mono ?_); rintro e w' ⟨rfl, ⟨nd, rfl⟩⟩))
    go_meet
    case rel => exact ⟨_, (g3), (by first | rfl | (simp; done) | (simp [*]; done)), H', ⟨by first | omega | exact Nat.le_refl _⟩, ⟨by exact upB a6.out⟩, ⟨by repeat (with_reducible first | exact HB.out | apply yad | apply yaa | apply yac | refine yae ?_ (Aside0.out ‹_›))⟩⟩
   ·
    rw [if_neg c5] at H
    have k6 := beq_eq_false_iff_ne.mpr c5; have k7 := bne_iff_ne.mpr c5; have H' := yab H; clear H; obtain ⟨d1, d2, d3, d4, d5, d6⟩ := cc6_ a6.out; obtain ⟨d7, d8, d9, e0, e1, e2⟩ := cf6_ a6.out
    go_wp2
    go_meet
    case rel => exact ⟨_, (false), (by first | rfl | (simp; done) | (simp [*]; done)), H', ⟨by first | omega | exact Nat.le_refl _⟩, ⟨by exact upB a6.out⟩, ⟨by repeat (with_reducible first | exact HB.out | apply yad | apply yaa | apply yac | refine yae ?_ (Aside0.out ‹_›))⟩⟩
  ·
   rw [if_neg c4] at H
   have b3 := beq_eq_false_iff_ne.mpr c4; have k5 := bne_iff_ne.mpr c4
   (first | rw [b3] | (simp only [i64_w, i32_w]; rw [b3]) | skip)
   have H' := yab H; clear H; obtain ⟨e3, e4, e5, e6, e7, e8⟩ := cc6_ a6.out; obtain ⟨e9, f0, f1, f2, f3, f4⟩ := cf6_ a6.out
   go_wp2
   go_meet
   case rel => exact ⟨_, (false), (by first | rfl | (simp; done) | (simp [*]; done)), H', ⟨by first | omega | exact Nat.le_refl _⟩, ⟨by exact upB a6.out⟩, ⟨by repeat (with_reducible first | exact HB.out | apply yad | apply yaa | apply yac | refine yae ?_ (Aside0.out ‹_›))⟩⟩
 case rest =>
  clear HC2; (try clear p2); (try clear c4); (try clear b3); (try clear k5); (try clear c5); (try clear k6); (try clear k7); (try clear b5); (try clear b6); (try clear b7); (try clear b8); (try clear b9); (try clear c0); (try clear d1); (try clear d2); (try clear d3); (try clear d4); (try clear d5); (try clear d6); (try clear e3); (try clear e4); (try clear e5); (try clear e6); (try clear e7); (try clear e8); (try clear c2); (try clear c3); (try clear c7); (try clear c8); (try clear c9); (try clear d0); (try clear d7); (try clear d8); (try clear d9); (try clear e0); (try clear e1); (try clear e2); (try clear e9); (try clear f0); (try clear f1); (try clear f2); (try clear f3); (try clear f4); obtain ⟨kq, b4, rfl, HA, HJ1, a6, HB⟩ := hcut
  cases kq with
  | zero => exact absurd HA.out (by simp [spec_DskText.j0])
  | succ kj1 =>
   have H := HA.out; clear HA
   simp only [spec_DskText.j0] at H
   by_cases c10 : b4 = true
   ·
    subst c10
    rw [if_pos rfl] at H
    obtain ⟨g4, A11, H⟩ := bindA H; (try dsimp only at H)
    by_cases c12 : 5 + g4.size ≤ 9223372036854775807
    ·
     rw [if_pos c12] at H
     have l0 := eq_true c12; have l1 : decide (5 + g4.size ≤ 9223372036854775807) = true := decide_eq_true c12
     try have l2 : (9223372036854775807 < 5 + g4.size) = False := eq_false (Nat.not_lt.2 c12)
     obtain rfl := Option.some.inj H; obtain ⟨g5, g6, g7, g8, g9, h0⟩ := cc6_ a6.out; obtain ⟨h1, h2, h3, h4, h5, h6⟩ := cf6_ a6.out
     go_wp2_with (first | ((with_reducible refine gc_ 52 rfl ?_); refine gl_ (some 22) rfl Tryd.func52 #[.int .i64 a0_5] ?_; (with_reducible refine (spec_l7Plain.calls kj1 a0_5 g4 _ A11.out).mono ?_); rintro e w14 ⟨rfl, hb⟩; refine ⟨_, rfl, ?_⟩; replace a6 := yab (blk_below (upB a6.out) hb); replace HB := yab (below_step (by repeat (with_reducible first | exact HB.out | apply yad | apply yaa | apply yac | refine yae ?_ (Aside0.out ‹_›))) hb); (try clear hb)))
     go_ret
     exact ⟨by first | rfl | (simp [*, errW_none, errW_some] <;> rfl), by repeat (with_reducible first | exact HB.out | apply yad | apply yaa | apply yac | refine yae ?_ (Aside0.out ‹_›))⟩
    ·
     rw [if_neg c12] at H
     exact absurd H (by simp)
   ·
    replace c10 := Bool.eq_false_iff.mpr c10
    subst c10
    rw [if_neg (show ¬ (false = true) by decide)] at H
    have HC15 := yab H; clear H
    go_upto_region 3 with (fail)
    go_cut [34] (fun v34 wc => ∃ (kq : Nat) (b2 : Bool), v34 = .bool b2 ∧ Aside0 (spec_DskText.j1 kq b2 a0_0 a0_1 a0_2 a0_3 l0_4 a0_5 = some r) ∧ Aside0 (kq ≤ kj1) ∧ Aside0 (wc.heap[a8]? = some (.cells #[.int .i64 a0_0, .int .i64 a0_1, .string a0_2, .int .i64 a0_3, (.slice A0_4 l0_4.length c0_4), .int .i64 a0_5] 65 (0, 0))) ∧ Aside0 (Below w.heap.size w wc))
    case first =>
     have H := HC15.out; clear HC15; obtain ⟨v8, A16, H⟩ := bindA H; (try dsimp only at H)
     by_cases c17 : v8 = true
     ·
      subst c17
      rw [if_pos rfl] at H
      obtain ⟨l3, A18, H⟩ := bindA H; (try dsimp only at H); have H' := yab H; clear H; obtain ⟨h7, h8, h9, i0, i1, i2⟩ := cc6_ a6.out; obtain ⟨i3, i4, i5, i6, i7, i8⟩ := cf6_ a6.out
      go_wp2_with (first | ((with_reducible refine gc_ 64 rfl ?_); refine gl_ (some 26) rfl Tryd.func64 #[.int .i64 a0_0, .int .i64 0, .int .i64 2] ?_; (with_reducible refine (spec_l1In.calls a0_0 0 2 true _ A16.out).mono ?_); rintro e w' ⟨rfl, ⟨nd, rfl⟩⟩; refine ⟨_, rfl, ?_⟩) | (go_at_call 64; (with_reducible refine (spec_l1In.calls a0_3 0 9999 l3 _ A18.out).mono ?_); rintro e w' ⟨rfl, ⟨nd, rfl⟩⟩))
      go_meet
      case rel => exact ⟨_, (!l3), (by first | rfl | (simp; done) | (simp [*]; done)), H', ⟨by have := HJ1.out; first | omega | exact Nat.le_refl _⟩, ⟨by exact upB a6.out⟩, ⟨by repeat (with_reducible first | exact HB.out | apply yad | apply yaa | apply yac | refine yae ?_ (Aside0.out ‹_›))⟩⟩
     ·
      replace c17 := Bool.eq_false_iff.mpr c17
      subst c17
      rw [if_neg (show ¬ (false = true) by decide)] at H
      have H' := yab H; clear H; obtain ⟨i9, j2, j3, j4, j5, j6⟩ := cc6_ a6.out; obtain ⟨j7, j8, j9, k0, k1, k2⟩ := cf6_ a6.out
      go_wp2_with (first | ((with_reducible refine gc_ 64 rfl ?_); refine gl_ (some 26) rfl Tryd.func64 #[.int .i64 a0_0, .int .i64 0, .int .i64 2] ?_; (with_reducible refine (spec_l1In.calls a0_0 0 2 false _ A16.out).mono ?_); rintro e w' ⟨rfl, ⟨nd, rfl⟩⟩; refine ⟨_, rfl, ?_⟩))
      go_meet
      case rel => exact ⟨_, (true), (by first | rfl | (simp; done) | (simp [*]; done)), H', ⟨by have := HJ1.out; first | omega | exact Nat.le_refl _⟩, ⟨by exact upB a6.out⟩, ⟨by repeat (with_reducible first | exact HB.out | apply yad | apply yaa | apply yac | refine yae ?_ (Aside0.out ‹_›))⟩⟩
    case rest =>
     clear HC15; (try clear c1); (try clear p2); (try clear c4); (try clear b3); (try clear k5); (try clear c5); (try clear k6); (try clear k7); (try clear c6); (try clear c10); (try clear c12); (try clear l0); (try clear l1); (try clear l2); (try clear c17); (try clear g5); (try clear g6); (try clear g7); (try clear g8); (try clear g9); (try clear h0); (try clear h7); (try clear h8); (try clear h9); (try clear i0); (try clear i1); (try clear i2); (try clear i9); (try clear j2); (try clear j3); (try clear j4); (try clear j5); (try clear j6); (try clear b5); (try clear b6); (try clear b7); (try clear b8); (try clear b9); (try clear c0); (try clear d1); (try clear d2); (try clear d3); (try clear d4); (try clear d5); (try clear d6); (try clear e3); (try clear e4); (try clear e5); (try clear e6); (try clear e7); (try clear e8); (try clear h1); (try clear h2); (try clear h3); (try clear h4); (try clear h5); (try clear h6); (try clear i3); (try clear i4); (try clear i5); (try clear i6); (try clear i7); (try clear i8); (try clear j7); (try clear j8); (try clear j9); (try clear k0); (try clear k1); (try clear k2); (try clear c2); (try clear c3); (try clear c7); (try clear c8); (try clear c9); (try clear d0); (try clear d7); (try clear d8); (try clear d9); (try clear e0); (try clear e1); (try clear e2); (try clear e9); (try clear f0); (try clear f1); (try clear f2); (try clear f3); (try clear f4); (try clear p2); obtain ⟨kq, b2, rfl, HA, HJ14, a6, HB⟩ := hcut
     cases kq with
     | zero => exact absurd HA.out (by simp [spec_DskText.j1])
     | succ kj14 =>
      have H := HA.out; clear HA
      simp only [spec_DskText.j1] at H
      by_cases c21 : b2 = true
      ·
       subst c21
       rw [if_pos rfl] at H
       obtain rfl := Option.some.inj H
       go_wp2
       go_ret
       exact ⟨by first | rfl | (simp [*, errW_none, errW_some] <;> rfl), by repeat (with_reducible first | exact HB.out | apply yad | apply yaa | apply yac | refine yae ?_ (Aside0.out ‹_›))⟩
      ·
       replace c21 := Bool.eq_false_iff.mpr c21
       subst c21
       rw [if_neg (show ¬ (false = true) by decide)] at H
       obtain ⟨a7, A22, H⟩ := bindA H; (try dsimp only at H)
       by_cases c23 : a0_1 = 1
       ·
        rw [if_pos c23] at H
        have l4 := beq_iff_eq.mpr c23; have l5 := bne_eq_false_iff_eq.mpr c23; clear c23
        by_cases c24 : 4 + a7.size ≤ 9223372036854775807
        ·
         rw [if_pos c24] at H
         have w0 := eq_true c24; have w1 : decide (4 + a7.size ≤ 9223372036854775807) = true := decide_eq_true c24
         try have w2 : (9223372036854775807 < 4 + a7.size) = False := eq_false (Nat.not_lt.2 c24)
         by_cases c25 : ((⟨#[97, 115, 107, 32]⟩ : ByteArray) ++ a7).size + 1 ≤ 9223372036854775807
         ·
          rw [if_pos c25] at H
          have w4 := eq_true c25; have w5 : decide (((⟨#[97, 115, 107, 32]⟩ : ByteArray) ++ a7).size + 1 ≤ 9223372036854775807) = true := decide_eq_true c25
          try have w6 : (9223372036854775807 < ((⟨#[97, 115, 107, 32]⟩ : ByteArray) ++ a7).size + 1) = False := eq_false (Nat.not_lt.2 c25)
          try (have f5 := c25; simp only [ByteArray.size_append', ByteArray.size_mk', List.size_toArray, List.length_cons, List.length_nil, Nat.zero_add, Nat.reduceAdd] at f5; replace f5 := eq_false (Nat.not_lt.2 f5))
          by_cases c26 : (((⟨#[97, 115, 107, 32]⟩ : ByteArray) ++ a7) ++ (⟨#[32]⟩ : ByteArray)).size + a0_2.size ≤ 9223372036854775807
          ·
           rw [if_pos c26] at H
           have w7 := eq_true c26; have w8 : decide ((((⟨#[97, 115, 107, 32]⟩ : ByteArray) ++ a7) ++ (⟨#[32]⟩ : ByteArray)).size + a0_2.size ≤ 9223372036854775807) = true := decide_eq_true c26
           try have w9 : (9223372036854775807 < (((⟨#[97, 115, 107, 32]⟩ : ByteArray) ++ a7) ++ (⟨#[32]⟩ : ByteArray)).size + a0_2.size) = False := eq_false (Nat.not_lt.2 c26)
           try (have f6 := c26; simp only [ByteArray.size_append', ByteArray.size_mk', List.size_toArray, List.length_cons, List.length_nil, Nat.zero_add, Nat.reduceAdd] at f6; replace f6 := eq_false (Nat.not_lt.2 f6))
           obtain rfl := Option.some.inj H; obtain ⟨m0, m1, m2, m3, m4, m5⟩ := cc6_ a6.out; obtain ⟨m6, m7, m8, m9, n0, n1⟩ := cf6_ a6.out
           go_wp2_with (first | ((with_reducible refine gc_ 52 rfl ?_); refine gl_ (some 37) rfl Tryd.func52 #[.int .i64 a0_0] ?_; (with_reducible refine (spec_l7Plain.calls kj14 a0_0 a7 _ A22.out).mono ?_); rintro e w28 ⟨rfl, hb⟩; refine ⟨_, rfl, ?_⟩; replace a6 := yab (blk_below (upB a6.out) hb); replace HB := yab (below_step (by repeat (with_reducible first | exact HB.out | apply yad | apply yaa | apply yac | refine yae ?_ (Aside0.out ‹_›))) hb); (try clear hb); obtain ⟨n2, n3, n4, n5, n6, n7⟩ := cc6_ a6.out; obtain ⟨n8, n9, o0, o1, o2⟩ := cf5_ a6.out; have o3 := blk_frozen a6.out 5))
           go_ret
           exact ⟨by first | rfl | (simp [*, errW_none, errW_some] <;> rfl), by repeat (with_reducible first | exact HB.out | apply yad | apply yaa | apply yac | refine yae ?_ (Aside0.out ‹_›))⟩
          ·
           rw [if_neg c26] at H
           exact absurd H (by simp)
         ·
          rw [if_neg c25] at H
          exact absurd H (by simp)
        ·
         rw [if_neg c24] at H
         exact absurd H (by simp)
       ·
        rw [if_neg c23] at H
        have l4 := beq_eq_false_iff_ne.mpr c23; have l5 := bne_iff_ne.mpr c23
        by_cases c30 : a0_1 = 2
        ·
         rw [if_pos c30] at H
         have l6 := beq_iff_eq.mpr c30; have l7 := bne_eq_false_iff_eq.mpr c30; clear c30
         by_cases c31 : 6 + a7.size ≤ 9223372036854775807
         ·
          rw [if_pos c31] at H
          have x0 := eq_true c31; have x1 : decide (6 + a7.size ≤ 9223372036854775807) = true := decide_eq_true c31
          try have x2 : (9223372036854775807 < 6 + a7.size) = False := eq_false (Nat.not_lt.2 c31)
          by_cases c32 : ((⟨#[114, 101, 112, 108, 121, 32]⟩ : ByteArray) ++ a7).size + 1 ≤ 9223372036854775807
          ·
           rw [if_pos c32] at H
           have x3 := eq_true c32; have x4 : decide (((⟨#[114, 101, 112, 108, 121, 32]⟩ : ByteArray) ++ a7).size + 1 ≤ 9223372036854775807) = true := decide_eq_true c32
           try have x5 : (9223372036854775807 < ((⟨#[114, 101, 112, 108, 121, 32]⟩ : ByteArray) ++ a7).size + 1) = False := eq_false (Nat.not_lt.2 c32)
           try (have f7 := c32; simp only [ByteArray.size_append', ByteArray.size_mk', List.size_toArray, List.length_cons, List.length_nil, Nat.zero_add, Nat.reduceAdd] at f7; replace f7 := eq_false (Nat.not_lt.2 f7))
           obtain ⟨b0, A33, H⟩ := bindA H; (try dsimp only at H)
           by_cases c34 : (((⟨#[114, 101, 112, 108, 121, 32]⟩ : ByteArray) ++ a7) ++ (⟨#[32]⟩ : ByteArray)).size + b0.size ≤ 9223372036854775807
           ·
            rw [if_pos c34] at H
            have x6 := eq_true c34; have x7 : decide ((((⟨#[114, 101, 112, 108, 121, 32]⟩ : ByteArray) ++ a7) ++ (⟨#[32]⟩ : ByteArray)).size + b0.size ≤ 9223372036854775807) = true := decide_eq_true c34
            try have x8 : (9223372036854775807 < (((⟨#[114, 101, 112, 108, 121, 32]⟩ : ByteArray) ++ a7) ++ (⟨#[32]⟩ : ByteArray)).size + b0.size) = False := eq_false (Nat.not_lt.2 c34)
            try (have f8 := c34; simp only [ByteArray.size_append', ByteArray.size_mk', List.size_toArray, List.length_cons, List.length_nil, Nat.zero_add, Nat.reduceAdd] at f8; replace f8 := eq_false (Nat.not_lt.2 f8))
            by_cases c35 : ((((⟨#[114, 101, 112, 108, 121, 32]⟩ : ByteArray) ++ a7) ++ (⟨#[32]⟩ : ByteArray)) ++ b0).size + 1 ≤ 9223372036854775807
            ·
             rw [if_pos c35] at H
             have x9 := eq_true c35; have y7 : decide (((((⟨#[114, 101, 112, 108, 121, 32]⟩ : ByteArray) ++ a7) ++ (⟨#[32]⟩ : ByteArray)) ++ b0).size + 1 ≤ 9223372036854775807) = true := decide_eq_true c35
             try have y8 : (9223372036854775807 < ((((⟨#[114, 101, 112, 108, 121, 32]⟩ : ByteArray) ++ a7) ++ (⟨#[32]⟩ : ByteArray)) ++ b0).size + 1) = False := eq_false (Nat.not_lt.2 c35)
             try (have f9 := c35; simp only [ByteArray.size_append', ByteArray.size_mk', List.size_toArray, List.length_cons, List.length_nil, Nat.zero_add, Nat.reduceAdd] at f9; replace f9 := eq_false (Nat.not_lt.2 f9))
             obtain ⟨k3, A36, H⟩ := bindA H; (try dsimp only at H)
             by_cases c37 : (((((⟨#[114, 101, 112, 108, 121, 32]⟩ : ByteArray) ++ a7) ++ (⟨#[32]⟩ : ByteArray)) ++ b0) ++ (⟨#[32]⟩ : ByteArray)).size + k3.size ≤ 9223372036854775807
             ·
              rw [if_pos c37] at H
              have y9 := eq_true c37; have z0 : decide ((((((⟨#[114, 101, 112, 108, 121, 32]⟩ : ByteArray) ++ a7) ++ (⟨#[32]⟩ : ByteArray)) ++ b0) ++ (⟨#[32]⟩ : ByteArray)).size + k3.size ≤ 9223372036854775807) = true := decide_eq_true c37
              try have z1 : (9223372036854775807 < (((((⟨#[114, 101, 112, 108, 121, 32]⟩ : ByteArray) ++ a7) ++ (⟨#[32]⟩ : ByteArray)) ++ b0) ++ (⟨#[32]⟩ : ByteArray)).size + k3.size) = False := eq_false (Nat.not_lt.2 c37)
              try (have g0 := c37; simp only [ByteArray.size_append', ByteArray.size_mk', List.size_toArray, List.length_cons, List.length_nil, Nat.zero_add, Nat.reduceAdd] at g0; replace g0 := eq_false (Nat.not_lt.2 g0))
              obtain rfl := Option.some.inj H; obtain ⟨o4, o5, o6, o7, o8, o9⟩ := cc6_ a6.out; obtain ⟨p0, p1, p3, p4, p5, p6⟩ := cf6_ a6.out
              try go_wp2_with (first | ((with_reducible refine gc_ 52 rfl ?_); refine gl_ (some 37) rfl Tryd.func52 #[.int .i64 a0_0] ?_; (with_reducible refine (spec_l7Plain.calls kj14 a0_0 a7 _ A22.out).mono ?_); rintro e w39 ⟨rfl, hb⟩; refine ⟨_, rfl, ?_⟩; replace a6 := yab (blk_below (upB a6.out) hb); replace HB := yab (below_step (by repeat (with_reducible first | exact HB.out | apply yad | apply yaa | apply yac | refine yae ?_ (Aside0.out ‹_›))) hb); (try clear hb); obtain ⟨p7, p8, p9, q0, q1, q2⟩ := cc6_ a6.out; obtain ⟨q3, q4, q5, q6, q7⟩ := cf5_ a6.out; have q8 := blk_frozen a6.out 5))
              replace a6 := yab (blk_drew a6.out); replace HB := yab (yac HB.out)
              refine start_ (n := 15) (S := fun w' => w'.cell? ⟨a8, 0, none⟩ = some (.int .i64 a0_0) ∧ w'.cell? ⟨a8, 1, none⟩ = some (.int .i64 a0_1) ∧ w'.cell? ⟨a8, 2, none⟩ = some (.string a0_2) ∧ w'.cell? ⟨a8, 3, none⟩ = some (.int .i64 a0_3) ∧ w'.cell? ⟨a8, 4, none⟩ = some (.slice A0_4 l0_4.length c0_4) ∧ w'.cell? ⟨a8, 5, none⟩ = some (.int .i64 a0_5)) (ds := []) q43_0 (by kernel_rfl) rfl rfl ⟨(blk_cell a6.out 0).trans rfl, (blk_cell a6.out 1).trans rfl, (blk_cell a6.out 2).trans rfl, (blk_cell a6.out 3).trans rfl, (blk_cell a6.out 4).trans rfl, (blk_cell a6.out 5).trans rfl⟩ (fun hHeld => ?_); refine with_tabW spec_DskText.tab10 spec_DskText.bits10 (fun HT_ HW_ => ?_)
              generalize w39.drew = w41 at a6 HB hHeld ⊢
              refine pz_ 0 52 q43_1 HT_ (by kernel_rfl) ?_
              refine pz_ 1 53 q43_2 HT_ (by kernel_rfl) ?_
              refine pz_ 2 54 q43_3 HT_ (by kernel_rfl) ?_
              refine pz_ 3 55 q43_4 HT_ (by kernel_rfl) ?_
              refine pz_ 4 56 q43_5 HT_ (by kernel_rfl) ?_
              refine pz_ 9 61 q43_6 HT_ (by kernel_rfl) ?_
              refine pz_ 10 62 q43_7 HT_ (by kernel_rfl) ?_
              refine tz_ 5 57 q43_8 HT_ HW_ (by kernel_rfl) hHeld ?_
              refine tz_ 11 63 q43_9 HT_ HW_ (by kernel_rfl) hHeld ?_
              refine one_ (i := 6) (N := some 58) q43_10 rfl rfl (one_of HT_.out (by kernel_rfl)) (by decide) (fun K hK => ?_)
              refine goes_ Tryd.func52 (by kernel_rfl) rfl #[.int .i64 a0_3] (by rfl) rfl rfl (by (try simp only [List.map_toArray, List.map_cons, List.map_nil]); first | done | rfl | (simp only [List.length_drop, List.length_take]; rfl)) ?_
              with_reducible refine (spec_l7Plain.calls kj14 a0_3 b0 _ A33.out).mono ?_
              rintro e w42 ⟨rfl, hb⟩; refine ⟨_, rfl, ?_⟩; have n0_ := yab (blk_below (upB a6.out) hb)
              have n1_ := yab (below_step (by repeat (with_reducible first | exact HB.out | apply yad | apply yaa | apply yac | refine yae ?_ (Aside0.out ‹_›))) hb)
              clear a6; clear HB; have a6 := n0_; have HB := n1_; clear n0_ n1_; (try clear hb); (try clear hb2); (try clear hk); (try clear hi)
              refine hK.out _ _ ⟨(blk_cell a6.out 0).trans rfl, (blk_cell a6.out 1).trans rfl, (blk_cell a6.out 2).trans rfl, (blk_cell a6.out 3).trans rfl, (blk_cell a6.out 4).trans rfl, (blk_cell a6.out 5).trans rfl⟩ (fun hHeld => ?_)
              clear hK K
              refine norm_ (a' := ?_) ?_ ?_
              rotate_left
              ·
               show Act.put _ (some 58) _ = _
               simp only [Act.put, List.setIfInBounds_toArray, List.set_cons_zero, List.set_cons_succ, i64_w, i32_w]
               rfl
              refine pz_ 7 59 q43_11 HT_ (by kernel_rfl) ?_
              refine pz_ 8 60 q43_12 HT_ (by kernel_rfl) ?_
              refine one_ (i := 12) (N := some 64) q43_13 rfl rfl (one_of HT_.out (by kernel_rfl)) (by decide) (fun K hK => ?_)
              refine goes_ Tryd.func92 (by kernel_rfl) rfl #[.slice A0_4 l0_4.length c0_4] (by rfl) rfl rfl (by (try simp only [List.map_toArray, List.map_cons, List.map_nil]); first | done | rfl | (simp only [List.length_drop, List.length_take]; rfl)) ?_
              with_reducible refine (spec_HexText.calls kj14 _ _ l0_4 k3 _ ?side1 ?side2 A36.out).mono ?_
              (case side1 => repeat (first | exact (Kd.C_below HR0_4.out HB.out) | (with_reducible refine Kd.C_alloc ?_ _) | (with_reducible refine Kd.C_drewN ?_ _) | (with_reducible refine Kd.C_drew ?_)))
              (case side2 => exact HC0_4.out)
              rintro e w' ⟨rfl, ⟨nd, rfl⟩⟩; refine ⟨_, rfl, ?_⟩
              refine hK.out _ _ ⟨(blk_cell a6.out 0).trans rfl, (blk_cell a6.out 1).trans rfl, (blk_cell a6.out 2).trans rfl, (blk_cell a6.out 3).trans rfl, (blk_cell a6.out 4).trans rfl, (blk_cell a6.out 5).trans rfl⟩ (fun hHeld => ?_)
              clear hK K
              refine norm_ (a' := ?_) ?_ ?_
              rotate_left
              ·
               show Act.put _ (some 64) _ = _
               simp only [Act.put, List.setIfInBounds_toArray, List.set_cons_zero, List.set_cons_succ, i64_w, i32_w]
               rfl
              refine pz_ 13 65 q43_14 HT_ (by kernel_rfl) ?_
              refine pz_ 14 2 q43_15 HT_ (by kernel_rfl) ?_
              refine done_ (done_of HT_.out (by kernel_rfl)) ?_
              try go_wp2
              go_ret
              exact ⟨by first | rfl | (simp [*, errW_none, errW_some] <;> rfl), by repeat (with_reducible first | exact HB.out | apply yad | apply yaa | apply yac | refine yae ?_ (Aside0.out ‹_›))⟩
             ·
              rw [if_neg c37] at H
              exact absurd H (by simp)
            ·
             rw [if_neg c35] at H
             exact absurd H (by simp)
           ·
            rw [if_neg c34] at H
            exact absurd H (by simp)
          ·
           rw [if_neg c32] at H
           exact absurd H (by simp)
         ·
          rw [if_neg c31] at H
          exact absurd H (by simp)
        ·
         rw [if_neg c30] at H
         have l6 := beq_eq_false_iff_ne.mpr c30; have l7 := bne_iff_ne.mpr c30
         by_cases c43 : a0_1 = 3
         ·
          rw [if_pos c43] at H
          have l8 := beq_iff_eq.mpr c43; have l9 := bne_eq_false_iff_eq.mpr c43; clear c43
          by_cases c44 : 5 + a7.size ≤ 9223372036854775807
          ·
           rw [if_pos c44] at H
           have z2 := eq_true c44; have z3 : decide (5 + a7.size ≤ 9223372036854775807) = true := decide_eq_true c44
           try have z4 : (9223372036854775807 < 5 + a7.size) = False := eq_false (Nat.not_lt.2 c44)
           by_cases c45 : ((⟨#[102, 97, 105, 108, 32]⟩ : ByteArray) ++ a7).size + 1 ≤ 9223372036854775807
           ·
            rw [if_pos c45] at H
            have z5 := eq_true c45; have z6 : decide (((⟨#[102, 97, 105, 108, 32]⟩ : ByteArray) ++ a7).size + 1 ≤ 9223372036854775807) = true := decide_eq_true c45
            try have z7 : (9223372036854775807 < ((⟨#[102, 97, 105, 108, 32]⟩ : ByteArray) ++ a7).size + 1) = False := eq_false (Nat.not_lt.2 c45)
            try (have g1 := c45; simp only [ByteArray.size_append', ByteArray.size_mk', List.size_toArray, List.length_cons, List.length_nil, Nat.zero_add, Nat.reduceAdd] at g1; replace g1 := eq_false (Nat.not_lt.2 g1))
            obtain ⟨k4, A46, H⟩ := bindA H; (try dsimp only at H)
            by_cases c47 : (((⟨#[102, 97, 105, 108, 32]⟩ : ByteArray) ++ a7) ++ (⟨#[32]⟩ : ByteArray)).size + k4.size ≤ 9223372036854775807
            ·
             rw [if_pos c47] at H
             have z8 := eq_true c47; have z9 : decide ((((⟨#[102, 97, 105, 108, 32]⟩ : ByteArray) ++ a7) ++ (⟨#[32]⟩ : ByteArray)).size + k4.size ≤ 9223372036854775807) = true := decide_eq_true c47
             try have A0 : (9223372036854775807 < (((⟨#[102, 97, 105, 108, 32]⟩ : ByteArray) ++ a7) ++ (⟨#[32]⟩ : ByteArray)).size + k4.size) = False := eq_false (Nat.not_lt.2 c47)
             try (have g2 := c47; simp only [ByteArray.size_append', ByteArray.size_mk', List.size_toArray, List.length_cons, List.length_nil, Nat.zero_add, Nat.reduceAdd] at g2; replace g2 := eq_false (Nat.not_lt.2 g2))
             obtain rfl := Option.some.inj H; obtain ⟨q9, r0, r1, r2, r3, r4⟩ := cc6_ a6.out; obtain ⟨r5, r6, r7, r8, r9, s0⟩ := cf6_ a6.out
             go_wp2_with (first | ((with_reducible refine gc_ 52 rfl ?_); refine gl_ (some 37) rfl Tryd.func52 #[.int .i64 a0_0] ?_; (with_reducible refine (spec_l7Plain.calls kj14 a0_0 a7 _ A22.out).mono ?_); rintro e w49 ⟨rfl, hb⟩; refine ⟨_, rfl, ?_⟩; replace a6 := yab (blk_below (upB a6.out) hb); replace HB := yab (below_step (by repeat (with_reducible first | exact HB.out | apply yad | apply yaa | apply yac | refine yae ?_ (Aside0.out ‹_›))) hb); (try clear hb); obtain ⟨s1, s2, s3, s4, s5, s6⟩ := cc6_ a6.out; obtain ⟨s7, s8, s9, t0, t1⟩ := cf5_ a6.out; have t2 := blk_frozen a6.out 5) | ((with_reducible refine gc_ 52 rfl ?_); refine gl_ (some 74) rfl Tryd.func52 #[.int .i64 a0_3] ?_; (with_reducible refine (spec_l7Plain.calls kj14 a0_3 k4 _ A46.out).mono ?_); rintro e w51 ⟨rfl, hb⟩; refine ⟨_, rfl, ?_⟩; replace a6 := yab (blk_below (upB a6.out) hb); replace HB := yab (below_step (by repeat (with_reducible first | exact HB.out | apply yad | apply yaa | apply yac | refine yae ?_ (Aside0.out ‹_›))) hb); (try clear hb)))
             go_ret
             exact ⟨by first | rfl | (simp [*, errW_none, errW_some] <;> rfl), by repeat (with_reducible first | exact HB.out | apply yad | apply yaa | apply yac | refine yae ?_ (Aside0.out ‹_›))⟩
            ·
             rw [if_neg c47] at H
             exact absurd H (by simp)
           ·
            rw [if_neg c45] at H
            exact absurd H (by simp)
          ·
           rw [if_neg c44] at H
           exact absurd H (by simp)
         ·
          rw [if_neg c43] at H
          have l8 := beq_eq_false_iff_ne.mpr c43; have l9 := bne_iff_ne.mpr c43; obtain rfl := Option.some.inj H; obtain ⟨t3, t4, t5, t6, t7, t8⟩ := cc6_ a6.out; obtain ⟨t9, u0, u1, u2, u3, u4⟩ := cf6_ a6.out
          go_wp2_with (first | ((with_reducible refine gc_ 52 rfl ?_); refine gl_ (some 37) rfl Tryd.func52 #[.int .i64 a0_0] ?_; (with_reducible refine (spec_l7Plain.calls kj14 a0_0 a7 _ A22.out).mono ?_); rintro e w53 ⟨rfl, hb⟩; refine ⟨_, rfl, ?_⟩; replace a6 := yab (blk_below (upB a6.out) hb); replace HB := yab (below_step (by repeat (with_reducible first | exact HB.out | apply yad | apply yaa | apply yac | refine yae ?_ (Aside0.out ‹_›))) hb); (try clear hb); obtain ⟨u5, u6, u7, u9, v0, v1⟩ := cc6_ a6.out; obtain ⟨v2, v3, v4, v5, v6⟩ := cf5_ a6.out; have v7 := blk_frozen a6.out 5))
          go_ret
          exact ⟨by first | rfl | (simp [*, errW_none, errW_some] <;> rfl), by repeat (with_reducible first | exact HB.out | apply yad | apply yaa | apply yac | refine yae ?_ (Aside0.out ‹_›))⟩
end
section
def laws_toByteS.l0 : Nat → List Int → List Int → Int → Option (List Int)
 | 0, _, _, _ => none
 | k + 1, x0, x3, x4 => if x4 < (x0.length : Int) then (if 0 ≤ x4 then (if x4 < (x3.length : Int) then (laws_toByteS.l0 k x0 (x3.set (x4 : Int).toNat (rd x0 x4)) (wrap64 (x4 + 1))) else (none)) else (none)) else (some x3)
def laws_toByteS.f (k : Nat) (l0 : List Int) : Option (List Int) := if 0 ≤ (l0.length : Int) then (if ((l0.length : Int) : Int).toNat ≤ 281474976710656 then (laws_toByteS.l0 k l0 (List.replicate ((l0.length : Int) : Int).toNat 0) 0) else (none)) else (none)
set_option maxHeartbeats 8000000 in
set_option maxRecDepth 100000 in
theorem laws_toByteS.calls (k : Nat) (A0 : Option Addr) (c0 : Nat) (l0 : List Int) (r : List Int) (w : World) (hr0 : Kd.C (Kd.int .u8) w A0 l0.length l0) (hc0 : l0.length ≤ c0) (h : laws_toByteS.f k l0 = some r) :
  Calls Tryd.prog 124 #[.slice A0 l0.length c0] w fun e w' => ∃ v0_ : Value, e = .returned (v0_) ∧ Kd.R (Kd.int .u8) 5 w' w.heap.size (fun _ => True) v0_ r ∧ Below w.heap.size w w' := by
 have HR0 := Aside0.mk hr0; have HC0 := Aside0.mk hc0; clear hr0 hc0; have HB := Aside0.mk (Below.refl w.heap.size w); have H : (if 0 ≤ (l0.length : Int) then (if ((l0.length : Int) : Int).toNat ≤ 281474976710656 then (laws_toByteS.l0 k l0 (List.replicate ((l0.length : Int) : Int).toNat 0) 0) else (none)) else (none)) = some r := h; clear h
 by_cases c2 : 0 ≤ (l0.length : Int)
 ·
  rw [if_pos c2] at H
  have a6 := eq_true c2; replace c2 := decide_eq_true c2
  by_cases c3 : ((l0.length : Int) : Int).toNat ≤ 281474976710656
  ·
   rw [if_pos c3] at H
   have a7 := eq_true c3; replace c3 := decide_eq_true c3; obtain ⟨y101, hy101⟩ : ∃ y_ : List Int, y_ = (List.replicate ((l0.length : Int) : Int).toNat 0) := ⟨_, rfl⟩
   replace H : (laws_toByteS.l0 k l0 y101 0) = some r := by first | (rw [hy101]; with_reducible exact H) | (have H2_ := (Option.bind_some _ _).symm.trans H; rw [hy101]; with_reducible exact H2_) | (have H2_ := (Option.bind_some _ _).symm.trans H; with_reducible exact H2_) | with_reducible exact H | (rw [hy101]; exact H) | exact H
   have Ny101 := Aside0.mk hy101; clear hy101; have H' := Aside0.mk H; clear H
   go_enter Tryd.func124, Tryd.ntmps124
   go_wp2_with (first | ((with_reducible refine gd_ 7 rfl ?_); refine Kd.R_make (Kd.int .u8) _ 5 rfl (N := 7) rfl 39 _ _ rfl (l0.length : Int) rfl rfl Tryd.underlying39 (.int .u8 0) 1 info5 rfl (by decide) (by omega) 0 (ok := fun _ => True) (okp := fun _ => True) rfl (fun _ hk => hk) trivial (of_decide_eq_true (by assumption)) (Nat.le_trans (Nat.mul_le_mul_right _ (of_decide_eq_true (by assumption) : (l0.length : Int).toNat ≤ 281474976710656)) (by omega)) (Below.refl _ _) (Nat.le_refl _) ?_; intro a8 w4 ho5 hb hg_ hnew_; clear hg_ hnew_; (first | rw [← Ny101.out] at ho5 | (simp only [Int.reduceToNat] at ho5; rw [← Ny101.out] at ho5)); have a5 := Aside0.mk (Kd.R_lower ho5 (below_size (upH HB.out))); replace HB := Aside0.mk (below_step (upH HB.out) hb); clear hb ho5))
   (try simp only [Act.put, List.setIfInBounds_toArray, List.set_cons_zero, List.set_cons_succ])
   go_loopg [4] k (fun kq v4 w' => ∃ (a3 : List Int) (a1 : Int), v4 = .int .i64 a1 ∧ Aside0 (laws_toByteS.l0 kq l0 a3 a1 = some r) ∧ Aside0 (kq ≤ k) ∧ Aside0 (Kd.R (Kd.int .u8) 5 w' w.heap.size (fun _ => True) a8 a3) ∧ Aside0 (Below w.heap.size w w'))
   case atStart => exact ⟨(y101), (0), (by first | rfl | (simp; done) | (simp [*]; done)), H', ⟨Nat.le_refl _⟩, ⟨by first | exact a5.out | exact upR a5.out⟩, ⟨upH HB.out⟩⟩
   case round =>
    clear H'; (try clear c1); (try clear c2); (try clear a6); (try clear c2b1); (try clear p2); (try clear c3); (try clear a7); (try clear c3b1); obtain ⟨a3, a1, rfl, HA, HK1, a2, HB⟩ := hrel
    cases gk with
    | zero => exact absurd HA.out (by simp [laws_toByteS.l0])
    | succ k1 =>
     have H := HA.out; clear HA
     simp only [laws_toByteS.l0] at H
     by_cases c6 : a1 < (l0.length : Int)
     ·
      rw [if_pos c6] at H
      have a9 : decide (a1 < (l0.length : Int)) = true := decide_eq_true c6; clear c6
      by_cases c7 : 0 ≤ a1
      ·
       rw [if_pos c7] at H
       replace c7 := decide_eq_true c7
       by_cases c8 : a1 < (a3.length : Int)
       ·
        rw [if_pos c8] at H
        replace c8 := decide_eq_true c8; obtain ⟨y105, hy105⟩ : ∃ y_ : List Int, y_ = (a3.set (a1 : Int).toNat (rd l0 a1)) := ⟨_, rfl⟩
        replace H : (laws_toByteS.l0 k1 l0 y105 (wrap64 (a1 + 1))) = some r := by first | (rw [hy105]; with_reducible exact H) | (have H2_ := (Option.bind_some _ _).symm.trans H; rw [hy105]; with_reducible exact H2_) | (have H2_ := (Option.bind_some _ _).symm.trans H; with_reducible exact H2_) | with_reducible exact H | (rw [hy105]; exact H) | exact H
        have Ny105 := Aside0.mk hy105; clear hy105; have H' := Aside0.mk H; clear H; have p104 : 0 ≤ (a1 : Int) := of_decide_eq_true (by assumption); have q104 : a1 < (l0.length : Int) := of_decide_eq_true (by assumption); obtain ⟨ad104, b0, a4⟩ := Kd.at_int HR0.out a1 p104 q104
        cases b0
        replace a4 := (upc_ HB.out a4 :); replace p104 := eq_true p104; replace q104 := eq_true q104; have p9 : 0 ≤ (a1 : Int) := of_decide_eq_true (by assumption); have q9 : (a1 : Int) < ((a3.length : Int) : Int) := of_decide_eq_true (by assumption); obtain ⟨go9, co9, eo9, gb9, gl9, cl9, HG9⟩ := Kd.R_form a2.out (by omega)
        (first | cases eo9 | (injection eo9 with ea_ en_ ec_; (first | subst ea_ | (injection ea_ with ea_; subst ea_)); subst ec_; clear en_))
        have GB9 := Aside0.mk gb9; have GG9 := Aside0.mk HG9; clear gb9 gl9 HG9; obtain ⟨b1, hf9_0⟩ := Kd.R_celln 0 a2.out (a1 : Int) p9 q9; replace p9 := eq_true p9; replace q9 := eq_true q9; have HP10 := Kd.R_putg a2.out (a1 : Int) (rd l0 a1)
        go_wp2_with (first | ((with_reducible refine gate_store (t := 5) (p := 20) rfl ?_); refine store_event (t := 5) (p := 20) (v := ?vo_w11) (w1 := (wr.setCell ⟨go9, (a1 : Int).toNat, none⟩ (.int .u8 (rd l0 a1)))) ?hg ?ho ?hn ?hr ?_; (case ho => rfl); (case hg => rfl); (case hn => rfl); (case hr => first | (go_simp; done) | (go_simp; rfl)); intro w11 hw; have hg : wr.grownBy w11 (some go9) := (by rw [hw]; exact HP10.2); have hp_ : Kd.R (Kd.int .u8) 5 w11 w.heap.size (fun _ => True) (.slice (some ⟨go9, 0, none⟩) a3.length co9) y105 := (by rw [hw, Ny105.out]; exact HP10.1); clear HP10; replace a2 := Aside0.mk (hp_); replace HB := Aside0.mk ((by rw [hw]; exact below_set (HB.out) GB9.out : Below w.heap.size w w11)); clear hg hw hp_))
        go_roundg k1
        case measure => have := HK1.out; omega
        case rel => exact ⟨(y105), (wrap64 (a1 + 1)), (by first | rfl | (simp; done) | (simp [*]; done)), H', ⟨by have := HK1.out; omega⟩, ⟨by first | exact a2.out | exact upR a2.out⟩, ⟨upH HB.out⟩⟩
       ·
        rw [if_neg c8] at H
        exact absurd H (by simp)
      ·
       rw [if_neg c7] at H
       exact absurd H (by simp)
     ·
      rw [if_neg c6] at H
      have a9 : decide (a1 < (l0.length : Int)) = false := decide_eq_false c6; clear c6; obtain rfl := Option.some.inj H
      go_wp2
      go_ret
      exact ⟨_, by first | rfl | (simp [*, errW_none, errW_some] <;> rfl), by first | exact a2.out | exact upR a2.out, upH HB.out⟩
  ·
   rw [if_neg c3] at H
   exact absurd H (by simp)
 ·
  rw [if_neg c2] at H
  exact absurd H (by simp)
end
section
open Go.Proofs.YtiihhjfdgojkeaaDoorW.PrintWords.Aside0 renaming mk → yaa

def laws_toTenEvent.f (k : Nat) (a0_0 : Int) (a0_1 : ByteArray) (a0_2 : Int) (l0_3 : List Int) (a0_4 : Int) : Option (Int × ByteArray × Int × List Int × Int) := (laws_toByteS.f k l0_3).bind fun t104 => (some (a0_0, a0_1, a0_2, t104, a0_4))
set_option maxHeartbeats 8000000 in
set_option maxRecDepth 100000 in
theorem laws_toTenEvent.calls (k : Nat) (a0_0 : Int) (a0_1 : ByteArray) (a0_2 : Int) (A0_3 : Option Addr) (c0_3 : Nat) (l0_3 : List Int) (a0_4 : Int) (r1 : Int) (r2 : ByteArray) (r3 : Int) (r4 : List Int) (r5 : Int) (w : World) (hr0_3 : Kd.C (Kd.int .u8) w A0_3 l0_3.length l0_3) (hc0_3 : l0_3.length ≤ c0_3) (h : laws_toTenEvent.f k a0_0 a0_1 a0_2 l0_3 a0_4 = some (r1, r2, r3, r4, r5)) :
  Calls Tryd.prog 93 #[.agg #[.int .i64 a0_0, .string a0_1, .int .i64 a0_2, .slice A0_3 l0_3.length c0_3, .int .i64 a0_4]] w fun e w' => ∃ v3_ : Value, e = .returned (.agg #[.int .i64 r1, .string r2, .int .i64 r3, v3_, .int .i64 r5]) ∧ Kd.R (Kd.int .u8) 5 w' w.heap.size (fun _ => True) v3_ r4 ∧ Below w.heap.size w w' := by
 have hu58 := Tryd.underlying58; have hu63 := Tryd.underlying63; have HR0_3 := yaa hr0_3; have HC0_3 := yaa hc0_3; clear hr0_3 hc0_3; have HB := yaa (Below.refl w.heap.size w); have H : ((laws_toByteS.f k l0_3).bind fun b3 => (some (a0_0, a0_1, a0_2, b3, a0_4))) = some (r1, r2, r3, r4, r5) := h; clear h; obtain ⟨b3, A2, H⟩ := bindA H; (try dsimp only at H)
 simp only [Option.some.injEq, Prod.mk.injEq] at H
 obtain ⟨rfl, rfl, rfl, rfl, rfl⟩ := H
 go_enter Tryd.func93, Tryd.ntmps93
 go_wp2_with (first | ((with_reducible refine gd_ 1 rfl ?_); refine bx_ 1 rfl #[.int .i64 a0_0, .string a0_1, .int .i64 a0_2, .slice A0_3 l0_3.length c0_3, .int .i64 a0_4] 58 ?_; intro b4 hg w3 hbox hb; have a6 := yaa (hbox); have c2 := yaa ((by rw [hg]; exact (below_size (upH HB.out)) : w.heap.size ≤ b4)); replace HB := yaa (below_step (upH HB.out) hb); have h8 := c2; clear hb hbox hg) | ((with_reducible refine gd_ 2 rfl ?_); refine bx_ 2 rfl #[.int .i64 0, .string (⟨#[]⟩ : ByteArray), .int .i64 0, .slice none 0 0, .int .i64 0] 63 ?_; intro a7 hg w4 hbox hb; have a8 := yaa (hbox); have c3 := yaa ((by rw [hg]; exact (below_size (by repeat (with_reducible first | exact HB.out | apply below_alloc | apply pw_below_drewN | apply below_drew1 | refine below_set ?_ (Aside0.out ‹_›)))) : w.heap.size ≤ a7)); replace HB := yaa (below_step (by repeat (with_reducible first | exact HB.out | apply below_alloc | apply pw_below_drewN | apply below_drew1 | refine below_set ?_ (Aside0.out ‹_›))) hb); have h9 := c3; have b1 := yaa ((by rw [hg]; exact Nat.ne_of_lt (blk_lt (upB a6.out)) : b4 ≠ a7)); replace a6 := yaa (blk_below (upB a6.out) hb); have b5 := yaa b1.out.symm; clear hb hbox hg) | ((with_reducible refine gd_ 3 rfl ?_); refine bx_ 3 rfl #[.int .i64 0, .string (⟨#[]⟩ : ByteArray), .int .i64 0, .slice none 0 0, .int .i64 0] 63 ?_; intro b2 hg w5 hbox hb; have b0 := yaa (hbox); have c4 := yaa ((by rw [hg]; exact (below_size (by repeat (with_reducible first | exact HB.out | apply below_alloc | apply pw_below_drewN | apply below_drew1 | refine below_set ?_ (Aside0.out ‹_›)))) : w.heap.size ≤ b2)); replace HB := yaa (below_step (by repeat (with_reducible first | exact HB.out | apply below_alloc | apply pw_below_drewN | apply below_drew1 | refine below_set ?_ (Aside0.out ‹_›))) hb); have i0 := c4; have a9 := yaa ((by rw [hg]; exact Nat.ne_of_lt (blk_lt (upB a6.out)) : b4 ≠ b2)); replace a6 := yaa (blk_below (upB a6.out) hb); have b6 := yaa a9.out.symm; have a5 := yaa ((by rw [hg]; exact Nat.ne_of_lt (blk_lt (upB a8.out)) : a7 ≠ b2)); replace a8 := yaa (blk_below (upB a8.out) hb); have b7 := yaa a5.out.symm; clear hb hbox hg; have i1 := b1.out; have i2 := b5.out; have i3 := a9.out; have i4 := b6.out; obtain ⟨g6, g7, g8, g9, h0⟩ := cc5_ a6.out; obtain ⟨h1, h2, h3, h4, h5⟩ := cf5_ a6.out; have i5 := b7.out; have i6 := a5.out; obtain ⟨c6, c7, c8, c9, d0⟩ := cc5_ b0.out; obtain ⟨d1, d2, d3, d4⟩ := cf4_ b0.out; have d5 := blk_frozen b0.out 4) | ((with_reducible refine gc_ 124 rfl ?_); refine gl_ (some 15) rfl Tryd.func124 #[.slice A0_3 l0_3.length c0_3] ?_; (with_reducible refine (laws_toByteS.calls k _ _ l0_3 b3 _ ?side1 ?side2 A2.out).mono ?_); (case side1 => exact Kd.C_below HR0_3.out (by repeat (with_reducible first | exact HB.out | apply below_alloc | apply pw_below_drewN | apply below_drew1 | refine below_set ?_ (Aside0.out ‹_›)))); (case side2 => exact HC0_3.out); rintro e w11 ⟨i7, rfl, ho0, hb⟩; refine ⟨_, rfl, ?_⟩; have c1 := yaa (Kd.R_lower ho0 (below_size (by repeat (with_reducible first | exact HB.out | apply below_alloc | apply pw_below_drewN | apply below_drew1 | refine below_set ?_ (Aside0.out ‹_›))))); replace a6 := yaa (blk_below (g := b4) (o := .cells #[.int .i64 a0_0, .string a0_1, .int .i64 a0_2, .slice A0_3 l0_3.length c0_3, .int .i64 a0_4] 58 (0, 0)) (by repeat (with_reducible first | exact a6.out | refine oneB ?_ | refine blk_far ?_ a9.out _)) hb); replace a8 := yaa (blk_below (g := a7) (o := .cells #[.int .i64 0, .string (⟨#[]⟩ : ByteArray), .int .i64 0, .slice none 0 0, .int .i64 0] 63 (0, 0)) (by repeat (with_reducible first | exact a8.out | refine oneB ?_ | refine blk_far ?_ a5.out _)) hb); replace b0 := yaa (blk_below (g := b2) (o := .cells #[.int .i64 a0_0, .string a0_1, .int .i64 a0_2, .slice none 0 0, .int .i64 0] 63 (0, 0)) (by (repeat refine oneB ?_); refine blk_put (cs := #[.int .i64 a0_0, .string a0_1, .int .i64 0, .slice none 0 0, .int .i64 0]) ?_ 2 _ rfl; refine blk_put (cs := #[.int .i64 a0_0, .string (⟨#[]⟩ : ByteArray), .int .i64 0, .slice none 0 0, .int .i64 0]) ?_ 1 _ rfl; refine blk_put (cs := #[.int .i64 0, .string (⟨#[]⟩ : ByteArray), .int .i64 0, .slice none 0 0, .int .i64 0]) ?_ 0 _ rfl; exact upB b0.out) hb); replace HB := yaa (below_step (by repeat (with_reducible first | exact HB.out | apply below_alloc | apply pw_below_drewN | apply below_drew1 | refine below_set ?_ (Aside0.out ‹_›))) hb); (try clear hb ho0); obtain ⟨b9, c0, h7⟩ := Kd.R_slice c1.out; subst h7; obtain ⟨d6, d7, d8, d9, e0⟩ := cc5_ b0.out; obtain ⟨e1, e2, e3, e4, e5⟩ := cf5_ b0.out; obtain ⟨e6, e7, e8, e9, f0⟩ := cc5_ a6.out; obtain ⟨f1, f2, f3, f4, f5⟩ := cf5_ a6.out; obtain ⟨f6, f7, f8, f9, g0⟩ := cc5_ a8.out; obtain ⟨g1, g2, g3, g4⟩ := cf4_ a8.out; have g5 := blk_frozen a8.out 4))
 refine bodyPost_ret (results_cell_row rfl _ _ a7 63 #[.int .i64 a0_0, .string a0_1, .int .i64 a0_2, .slice b9 b3.length c0, .int .i64 a0_4] (0, 0) _ rfl (by (repeat refine oneB ?_); refine blk_put (cs := #[.int .i64 a0_0, .string a0_1, .int .i64 a0_2, .slice b9 b3.length c0, .int .i64 0]) ?_ 4 _ rfl; refine blk_put (cs := #[.int .i64 a0_0, .string a0_1, .int .i64 a0_2, .slice none 0 0, .int .i64 0]) ?_ 3 _ rfl; refine blk_put (cs := #[.int .i64 a0_0, .string a0_1, .int .i64 0, .slice none 0 0, .int .i64 0]) ?_ 2 _ rfl; refine blk_put (cs := #[.int .i64 a0_0, .string (⟨#[]⟩ : ByteArray), .int .i64 0, .slice none 0 0, .int .i64 0]) ?_ 1 _ rfl; refine blk_put (cs := #[.int .i64 0, .string (⟨#[]⟩ : ByteArray), .int .i64 0, .slice none 0 0, .int .i64 0]) ?_ 0 _ rfl; (repeat refine oneB ?_); refine blk_far ?_ a5.out _; (repeat refine oneB ?_); refine blk_far ?_ a5.out _; exact upB a8.out) Tryd.underlying63 rfl (by kernel_rfl)) rfl ?_
 exact ⟨_, by first | rfl | (simp [*, errW_none, errW_some] <;> rfl), by (with_reducible repeat (first | apply Kd.R_alloc | apply Kd.R_drewN | apply Kd.R_drew)); exact Kd.R_mono (Kd.R_far (p := ⟨a7, 4, none⟩) (Kd.R_far (p := ⟨a7, 3, none⟩) (Kd.R_far (p := ⟨a7, 2, none⟩) (Kd.R_far (p := ⟨a7, 1, none⟩) (Kd.R_far (p := ⟨a7, 0, none⟩) (Kd.R_far (p := ⟨b2, 4, none⟩) (Kd.R_far (p := ⟨b2, 3, none⟩) (Kd.R_types (Kd.R_types c1.out b0.out (by decide)) a8.out (by decide)) (fun _ hk => hk.1.2) (.slice b9 b3.length c0)) (fun _ hk => hk.1.2) (.int .i64 a0_4)) (fun _ hk => hk.2) (.int .i64 a0_0)) (fun _ hk => hk.2) (.string a0_1)) (fun _ hk => hk.2) (.int .i64 a0_2)) (fun _ hk => hk.2) (.slice b9 b3.length c0)) (fun _ hk => hk.2) (.int .i64 a0_4)) (fun _ hk => trivial), by repeat (with_reducible first | exact HB.out | apply below_alloc | apply pw_below_drewN | apply below_drew1 | refine below_set ?_ (Aside0.out ‹_›))⟩
end
section
open Go.Proofs.YtiihhjfdgojkeaaDoorW.PrintWords.Aside0 renaming mk → yaa

def laws_toHouEvent.f (k : Nat) (a0_0 : Int) (a0_1 : Int) (a0_2 : ByteArray) (a0_3 : Int) (l0_4 : List Int) (a0_5 : Int) : Option (Int × Int × ByteArray × Int × List Int × Int) := (laws_toTenEvent.f k a0_1 a0_2 a0_3 l0_4 a0_5).bind fun bt104 => (some (a0_0, bt104.1, bt104.2.1, bt104.2.2.1, bt104.2.2.2.1, bt104.2.2.2.2))
set_option maxHeartbeats 8000000 in
set_option maxRecDepth 100000 in
theorem laws_toHouEvent.calls (k : Nat) (a0_0 : Int) (a0_1 : Int) (a0_2 : ByteArray) (a0_3 : Int) (A0_4 : Option Addr) (c0_4 : Nat) (l0_4 : List Int) (a0_5 : Int) (r1 : Int) (r2 : Int) (r3 : ByteArray) (r4 : Int) (r5 : List Int) (r6 : Int) (w : World) (hr0_4 : Kd.C (Kd.int .u8) w A0_4 l0_4.length l0_4) (hc0_4 : l0_4.length ≤ c0_4) (h : laws_toHouEvent.f k a0_0 a0_1 a0_2 a0_3 l0_4 a0_5 = some (r1, r2, r3, r4, r5, r6)) :
  Calls Tryd.prog 44 #[.agg #[.int .i64 a0_0, .int .i64 a0_1, .string a0_2, .int .i64 a0_3, .slice A0_4 l0_4.length c0_4, .int .i64 a0_5]] w fun e w' => ∃ v4_ : Value, e = .returned (.agg #[.int .i64 r1, .int .i64 r2, .string r3, .int .i64 r4, v4_, .int .i64 r6]) ∧ Kd.R (Kd.int .u8) 5 w' w.heap.size (fun _ => True) v4_ r5 ∧ Below w.heap.size w w' := by
 have hu60 := Tryd.underlying60; have hu65 := Tryd.underlying65; have hu58 := Tryd.underlying58; have hu63 := Tryd.underlying63; have HR0_4 := yaa hr0_4; have HC0_4 := yaa hc0_4; clear hr0_4 hc0_4; have HB := yaa (Below.refl w.heap.size w); have H : ((laws_toTenEvent.f k a0_1 a0_2 a0_3 l0_4 a0_5).bind fun b4 => (some (a0_0, b4.1, b4.2.1, b4.2.2.1, b4.2.2.2.1, b4.2.2.2.2))) = some (r1, r2, r3, r4, r5, r6) := h; clear h; obtain ⟨⟨b5, b6, b8, c2, c3⟩, A2, H⟩ := bindA H; (try dsimp only at H)
 simp only [Option.some.injEq, Prod.mk.injEq] at H
 obtain ⟨rfl, rfl, rfl, rfl, rfl, rfl⟩ := H
 go_enter Tryd.func44, Tryd.ntmps44
 go_wp2_with (first | ((with_reducible refine gd_ 1 rfl ?_); refine bx_ 1 rfl #[.int .i64 a0_0, .int .i64 a0_1, .string a0_2, .int .i64 a0_3, .slice A0_4 l0_4.length c0_4, .int .i64 a0_5] 60 ?_; intro b7 hg w3 hbox hb; have a8 := yaa (hbox); have c8 := yaa ((by rw [hg]; exact (below_size (upH HB.out)) : w.heap.size ≤ b7)); replace HB := yaa (below_step (upH HB.out) hb); have i2 := c8; clear hb hbox hg) | ((with_reducible refine gd_ 2 rfl ?_); refine bx_ 2 rfl #[.int .i64 0, .int .i64 0, .string (⟨#[]⟩ : ByteArray), .int .i64 0, .slice none 0 0, .int .i64 0] 65 ?_; intro a7 hg w4 hbox hb; have a9 := yaa (hbox); have c9 := yaa ((by rw [hg]; exact (below_size (by repeat (with_reducible first | exact HB.out | apply below_alloc | apply pw_below_drewN | apply below_drew1 | refine below_set ?_ (Aside0.out ‹_›)))) : w.heap.size ≤ a7)); replace HB := yaa (below_step (by repeat (with_reducible first | exact HB.out | apply below_alloc | apply pw_below_drewN | apply below_drew1 | refine below_set ?_ (Aside0.out ‹_›))) hb); have i3 := c9; have b3 := yaa ((by rw [hg]; exact Nat.ne_of_lt (blk_lt (upB a8.out)) : b7 ≠ a7)); replace a8 := yaa (blk_below (upB a8.out) hb); have b9 := yaa b3.out.symm; clear hb hbox hg) | ((with_reducible refine gd_ 3 rfl ?_); refine bx_ 3 rfl #[.int .i64 0, .int .i64 0, .string (⟨#[]⟩ : ByteArray), .int .i64 0, .slice none 0 0, .int .i64 0] 65 ?_; intro b0 hg w5 hbox hb; have b2 := yaa (hbox); have d0 := yaa ((by rw [hg]; exact (below_size (by repeat (with_reducible first | exact HB.out | apply below_alloc | apply pw_below_drewN | apply below_drew1 | refine below_set ?_ (Aside0.out ‹_›)))) : w.heap.size ≤ b0)); replace HB := yaa (below_step (by repeat (with_reducible first | exact HB.out | apply below_alloc | apply pw_below_drewN | apply below_drew1 | refine below_set ?_ (Aside0.out ‹_›))) hb); have i4 := d0; have b1 := yaa ((by rw [hg]; exact Nat.ne_of_lt (blk_lt (upB a8.out)) : b7 ≠ b0)); replace a8 := yaa (blk_below (upB a8.out) hb); have c0 := yaa b1.out.symm; have a6 := yaa ((by rw [hg]; exact Nat.ne_of_lt (blk_lt (upB a9.out)) : a7 ≠ b0)); replace a9 := yaa (blk_below (upB a9.out) hb); have c1 := yaa a6.out.symm; clear hb hbox hg; have i5 := b3.out; have i6 := b9.out; have i7 := b1.out; have i8 := c0.out; obtain ⟨g7, g8, g9, h0, h1, h2⟩ := cc6_ a8.out; obtain ⟨h3, h4, h5, h6, h7, h8⟩ := cf6_ a8.out; have i9 := c1.out; have j0 := a6.out; obtain ⟨d1, d2, d3, d4, d5, d6⟩ := cc6_ b2.out; obtain ⟨d7, d8, d9, e0, e1⟩ := cf5_ b2.out; have e2 := blk_frozen b2.out 5) | ((with_reducible refine gc_ 93 rfl ?_); refine gl_ (some 9) rfl Tryd.func93 #[.agg #[.int .i64 a0_1, .string a0_2, .int .i64 a0_3, .slice A0_4 l0_4.length c0_4, .int .i64 a0_5]] ?_; (with_reducible refine (laws_toTenEvent.calls k a0_1 a0_2 a0_3 _ _ l0_4 a0_5 b5 b6 b8 c2 c3 _ ?side1 ?side2 A2.out).mono ?_); (case side1 => exact Kd.C_below HR0_4.out (by repeat (with_reducible first | exact HB.out | apply below_alloc | apply pw_below_drewN | apply below_drew1 | refine below_set ?_ (Aside0.out ‹_›)))); (case side2 => exact HC0_4.out); rintro e w11 ⟨j1, rfl, ho0, hb⟩; refine ⟨_, rfl, ?_⟩; have c6 := yaa (Kd.R_lower ho0 (below_size (by repeat (with_reducible first | exact HB.out | apply below_alloc | apply pw_below_drewN | apply below_drew1 | refine below_set ?_ (Aside0.out ‹_›))))); replace a8 := yaa (blk_below (g := b7) (o := .cells #[.int .i64 a0_0, .int .i64 a0_1, .string a0_2, .int .i64 a0_3, .slice A0_4 l0_4.length c0_4, .int .i64 a0_5] 60 (0, 0)) (by repeat (with_reducible first | exact a8.out | refine oneB ?_ | refine blk_far ?_ b1.out _)) hb); replace a9 := yaa (blk_below (g := a7) (o := .cells #[.int .i64 0, .int .i64 0, .string (⟨#[]⟩ : ByteArray), .int .i64 0, .slice none 0 0, .int .i64 0] 65 (0, 0)) (by repeat (with_reducible first | exact a9.out | refine oneB ?_ | refine blk_far ?_ a6.out _)) hb); replace b2 := yaa (blk_below (g := b0) (o := .cells #[.int .i64 a0_0, .int .i64 0, .string (⟨#[]⟩ : ByteArray), .int .i64 0, .slice none 0 0, .int .i64 0] 65 (0, 0)) (by (repeat refine oneB ?_); refine blk_put (cs := #[.int .i64 0, .int .i64 0, .string (⟨#[]⟩ : ByteArray), .int .i64 0, .slice none 0 0, .int .i64 0]) ?_ 0 _ rfl; exact upB b2.out) hb); replace HB := yaa (below_step (by repeat (with_reducible first | exact HB.out | apply below_alloc | apply pw_below_drewN | apply below_drew1 | refine below_set ?_ (Aside0.out ‹_›))) hb); (try clear hb ho0); obtain ⟨e3, e4, e5, e6, e7, e8⟩ := cc6_ b2.out; obtain ⟨e9, f0, f1, f2, f3, f4⟩ := cf6_ b2.out; obtain ⟨c4, c5, i1⟩ := Kd.R_slice c6.out; subst i1; obtain ⟨f5, f6, f7, f8, f9, g0⟩ := cc6_ a9.out; obtain ⟨g1, g2, g3, g4, g5⟩ := cf5_ a9.out; have g6 := blk_frozen a9.out 5))
 refine bodyPost_ret (results_cell_row rfl _ _ a7 65 #[.int .i64 a0_0, .int .i64 b5, .string b6, .int .i64 b8, .slice c4 c2.length c5, .int .i64 c3] (0, 0) _ rfl (by (repeat refine oneB ?_); refine blk_put (cs := #[.int .i64 a0_0, .int .i64 b5, .string b6, .int .i64 b8, .slice c4 c2.length c5, .int .i64 0]) ?_ 5 _ rfl; refine blk_put (cs := #[.int .i64 a0_0, .int .i64 b5, .string b6, .int .i64 b8, .slice none 0 0, .int .i64 0]) ?_ 4 _ rfl; refine blk_put (cs := #[.int .i64 a0_0, .int .i64 b5, .string b6, .int .i64 0, .slice none 0 0, .int .i64 0]) ?_ 3 _ rfl; refine blk_put (cs := #[.int .i64 a0_0, .int .i64 b5, .string (⟨#[]⟩ : ByteArray), .int .i64 0, .slice none 0 0, .int .i64 0]) ?_ 2 _ rfl; refine blk_put (cs := #[.int .i64 a0_0, .int .i64 0, .string (⟨#[]⟩ : ByteArray), .int .i64 0, .slice none 0 0, .int .i64 0]) ?_ 1 _ rfl; refine blk_put (cs := #[.int .i64 0, .int .i64 0, .string (⟨#[]⟩ : ByteArray), .int .i64 0, .slice none 0 0, .int .i64 0]) ?_ 0 _ rfl; (repeat refine oneB ?_); refine blk_far ?_ a6.out _; (repeat refine oneB ?_); refine blk_far ?_ a6.out _; (repeat refine oneB ?_); refine blk_far ?_ a6.out _; (repeat refine oneB ?_); refine blk_far ?_ a6.out _; (repeat refine oneB ?_); refine blk_far ?_ a6.out _; exact upB a9.out) Tryd.underlying65 rfl (by kernel_rfl)) rfl ?_
 exact ⟨_, by first | rfl | (simp [*, errW_none, errW_some] <;> rfl), by (with_reducible repeat (first | apply Kd.R_alloc | apply Kd.R_drewN | apply Kd.R_drew)); exact Kd.R_mono (Kd.R_far (p := ⟨a7, 5, none⟩) (Kd.R_far (p := ⟨a7, 4, none⟩) (Kd.R_far (p := ⟨a7, 3, none⟩) (Kd.R_far (p := ⟨a7, 2, none⟩) (Kd.R_far (p := ⟨a7, 1, none⟩) (Kd.R_far (p := ⟨a7, 0, none⟩) (Kd.R_far (p := ⟨b0, 5, none⟩) (Kd.R_far (p := ⟨b0, 4, none⟩) (Kd.R_far (p := ⟨b0, 3, none⟩) (Kd.R_far (p := ⟨b0, 2, none⟩) (Kd.R_far (p := ⟨b0, 1, none⟩) (Kd.R_types (Kd.R_types c6.out b2.out (by decide)) a9.out (by decide)) (fun _ hk => hk.1.2) (.int .i64 b5)) (fun _ hk => hk.1.2) (.string b6)) (fun _ hk => hk.1.2) (.int .i64 b8)) (fun _ hk => hk.1.2) (.slice c4 c2.length c5)) (fun _ hk => hk.1.2) (.int .i64 c3)) (fun _ hk => hk.2) (.int .i64 a0_0)) (fun _ hk => hk.2) (.int .i64 b5)) (fun _ hk => hk.2) (.string b6)) (fun _ hk => hk.2) (.int .i64 b8)) (fun _ hk => hk.2) (.slice c4 c2.length c5)) (fun _ hk => hk.2) (.int .i64 c3)) (fun _ hk => trivial), by repeat (with_reducible first | exact HB.out | apply below_alloc | apply pw_below_drewN | apply below_drew1 | refine below_set ?_ (Aside0.out ‹_›))⟩
end
section
def impl_within.f (a0 : Int) (a1 : Int) (a2 : Int) : Option (Bool) := if a0 ≥ a1 then (some (decide (a0 ≤ a2))) else (some false)
set_option maxHeartbeats 8000000 in
set_option maxRecDepth 100000 in
theorem impl_within.calls (a0 : Int) (a1 : Int) (a2 : Int) (r : Bool) (w : World) (h : impl_within.f a0 a1 a2 = some r) :
    Calls Tryd.prog 68 #[.int .i64 a0, .int .i64 a1, .int .i64 a2] w fun e w' => e = .returned (.bool r) ∧ Drawn0 w w' := by
  have H : (if a0 ≥ a1 then (some (decide (a0 ≤ a2))) else (some false)) = some r := h; clear h
  by_cases c4 : a0 ≥ a1
  · rw [if_pos c4] at H
    have c4b0 : decide (a1 ≤ a0) = true := decide_eq_true c4; clear c4; obtain rfl := Option.some.inj H
    go_enter Tryd.func68, Tryd.ntmps68
    go_wp2
    go_ret
    exact ⟨by first | rfl | (simp; done) | (simp [*]; done), by repeat (first | exact Drawn0.refl _ | apply Drawn0.step)⟩
  · rw [if_neg c4] at H
    have c4b0 : decide (a1 ≤ a0) = false := decide_eq_false c4; clear c4; obtain rfl := Option.some.inj H
    go_enter Tryd.func68, Tryd.ntmps68
    go_wp2
    go_ret
    exact ⟨by first | rfl | (simp; done) | (simp [*]; done), by repeat (first | exact Drawn0.refl _ | apply Drawn0.step)⟩
end
section
open Go.Proofs.YtiihhjfdgojkeaaDoorW.PrintWords.Aside0 renaming mk → yaa
open Go.Proofs.YtiihhjfdgojkeaaDoorW.PrintWords renaming pw_below_drewN → yab, below_alloc → yac, below_drew1 → yad

def impl_dskForm_fits.f (a0_0 : ByteArray) (a0_1 : Int) (a0_2 : Bool) (a0_3 : Bool) (a0_4 : Bool) (a0_5 : Bool) (a0_6 : Bool) (a1_0 : Int) (a1_1 : Int) (a1_2 : ByteArray) (a1_3 : Int) (l1_4 : List Int) (a1_5 : Int) : Option (Bool) := if a0_1 = a1_1 then (if a0_6 = true then (if a1_0 = (-1) then ((impl_within.f a1_5 0 9999).bind fun t103 => (some t103)) else (some false)) else ((impl_within.f a1_0 0 2).bind fun t104 => (if t104 = true then ((impl_within.f a1_3 0 9999).bind fun t105 => (some t105)) else (some false)))) else (some false)
set_option maxHeartbeats 8000000 in
set_option maxRecDepth 100000 in
theorem impl_dskForm_fits.calls (a0_0 : ByteArray) (a0_1 : Int) (a0_2 : Bool) (a0_3 : Bool) (a0_4 : Bool) (a0_5 : Bool) (a0_6 : Bool) (a1_0 : Int) (a1_1 : Int) (a1_2 : ByteArray) (a1_3 : Int) (A1_4 : Option Addr) (c1_4 : Nat) (l1_4 : List Int) (a1_5 : Int) (r : Bool) (w : World) (hr1_4 : Kd.C (Kd.int .u8) w A1_4 l1_4.length l1_4) (hc1_4 : l1_4.length ≤ c1_4) (h : impl_dskForm_fits.f a0_0 a0_1 a0_2 a0_3 a0_4 a0_5 a0_6 a1_0 a1_1 a1_2 a1_3 l1_4 a1_5 = some r) :
  Calls Tryd.prog 94 #[.agg #[.string a0_0, .int .i64 a0_1, .bool a0_2, .bool a0_3, .bool a0_4, .bool a0_5, .bool a0_6], .agg #[.int .i64 a1_0, .int .i64 a1_1, .string a1_2, .int .i64 a1_3, .slice A1_4 l1_4.length c1_4, .int .i64 a1_5]] w fun e w' => e = .returned (.bool r) ∧ Below w.heap.size w w' := by
 have hu122 := Tryd.underlying122; have hu65 := Tryd.underlying65; have HR1_4 := yaa hr1_4; have HC1_4 := yaa hc1_4; clear hr1_4 hc1_4; have HB := yaa (Below.refl w.heap.size w); have H : (if a0_1 = a1_1 then (if a0_6 = true then (if a1_0 = (-1) then ((impl_within.f a1_5 0 9999).bind fun b4 => (some b4)) else (some false)) else ((impl_within.f a1_0 0 2).bind fun b5 => (if b5 = true then ((impl_within.f a1_3 0 9999).bind fun b6 => (some b6)) else (some false)))) else (some false)) = some r := h; clear h
 by_cases c3 : a0_1 = a1_1
 ·
  rw [if_pos c3] at H
  have p0 := beq_iff_eq.mpr c3; have p1 := bne_eq_false_iff_eq.mpr c3; clear c3
  by_cases c4 : a0_6 = true
  ·
   subst c4
   rw [if_pos rfl] at H
   by_cases c5 : a1_0 = (-1)
   ·
    rw [if_pos c5] at H
    have p2 := beq_iff_eq.mpr c5; have p3 := bne_eq_false_iff_eq.mpr c5; clear c5; obtain ⟨b4, A6, H⟩ := bindA H; (try dsimp only at H); obtain rfl := Option.some.inj H
    go_enter Tryd.func94, Tryd.ntmps94
    go_wp2_with (first | ((with_reducible refine gd_ 2 rfl ?_); refine bx_ 2 rfl #[.string a0_0, .int .i64 a0_1, .bool a0_2, .bool a0_3, .bool a0_4, .bool a0_5, .bool true] 122 ?_; intro a4 hg w7 hbox hb; have a1 := yaa (hbox); have a6 := yaa ((by rw [hg]; exact (below_size (upH HB.out)) : w.heap.size ≤ a4)); replace HB := yaa (below_step (upH HB.out) hb); have a8 := a6; clear hb hbox hg) | ((with_reducible refine gd_ 3 rfl ?_); refine bx_ 3 rfl #[.int .i64 a1_0, .int .i64 a1_1, .string a1_2, .int .i64 a1_3, .slice A1_4 l1_4.length c1_4, .int .i64 a1_5] 65 ?_; intro a5 hg w8 hbox hb; have a3 := yaa (hbox); have a7 := yaa ((by rw [hg]; exact (below_size (by repeat (with_reducible first | exact HB.out | apply yac | apply yab | apply yad | refine below_set ?_ (Aside0.out ‹_›)))) : w.heap.size ≤ a5)); replace HB := yaa (below_step (by repeat (with_reducible first | exact HB.out | apply yac | apply yab | apply yad | refine below_set ?_ (Aside0.out ‹_›))) hb); have a9 := a7; have a0 := yaa ((by rw [hg]; exact Nat.ne_of_lt (blk_lt (upB a1.out)) : a4 ≠ a5)); replace a1 := yaa (blk_below (upB a1.out) hb); have a2 := yaa a0.out.symm; clear hb hbox hg; have q2 := a0.out; have q3 := a2.out; obtain ⟨b7, b8, b9, c0, c1, c2, c6⟩ := cc7_ a1.out; obtain ⟨c7, c8, c9, d0, d1, d2, d3⟩ := cf7_ a1.out; obtain ⟨d4, d5, d6, d7, d8, d9⟩ := cc6_ a3.out; obtain ⟨e0, e1, e2, e3, e4⟩ := cf5_ a3.out; have e5 := blk_frozen a3.out 5) | (go_at_call 68; (with_reducible refine (impl_within.calls a1_5 0 9999 b4 _ A6.out).mono ?_); rintro e w' ⟨rfl, ⟨nd, rfl⟩⟩))
    go_ret
    exact ⟨by first | rfl | (simp [*, errW_none, errW_some] <;> rfl), by repeat (with_reducible first | exact HB.out | apply yac | apply yab | apply yad | refine below_set ?_ (Aside0.out ‹_›))⟩
   ·
    rw [if_neg c5] at H
    have p2 := beq_eq_false_iff_ne.mpr c5; have p3 := bne_iff_ne.mpr c5; obtain rfl := Option.some.inj H
    go_enter Tryd.func94, Tryd.ntmps94
    go_wp2_with (first | ((with_reducible refine gd_ 2 rfl ?_); refine bx_ 2 rfl #[.string a0_0, .int .i64 a0_1, .bool a0_2, .bool a0_3, .bool a0_4, .bool a0_5, .bool true] 122 ?_; intro a4 hg w12 hbox hb; have a1 := yaa (hbox); have a6 := yaa ((by rw [hg]; exact (below_size (upH HB.out)) : w.heap.size ≤ a4)); replace HB := yaa (below_step (upH HB.out) hb); have a8 := a6; clear hb hbox hg) | ((with_reducible refine gd_ 3 rfl ?_); refine bx_ 3 rfl #[.int .i64 a1_0, .int .i64 a1_1, .string a1_2, .int .i64 a1_3, .slice A1_4 l1_4.length c1_4, .int .i64 a1_5] 65 ?_; intro a5 hg w13 hbox hb; have a3 := yaa (hbox); have a7 := yaa ((by rw [hg]; exact (below_size (by repeat (with_reducible first | exact HB.out | apply yac | apply yab | apply yad | refine below_set ?_ (Aside0.out ‹_›)))) : w.heap.size ≤ a5)); replace HB := yaa (below_step (by repeat (with_reducible first | exact HB.out | apply yac | apply yab | apply yad | refine below_set ?_ (Aside0.out ‹_›))) hb); have a9 := a7; have a0 := yaa ((by rw [hg]; exact Nat.ne_of_lt (blk_lt (upB a1.out)) : a4 ≠ a5)); replace a1 := yaa (blk_below (upB a1.out) hb); have a2 := yaa a0.out.symm; clear hb hbox hg; have p4 := a0.out; have p5 := a2.out; obtain ⟨e6, e7, e8, e9, f0, f1, f2⟩ := cc7_ a1.out; obtain ⟨f3, f4, f5, f6, f7, f8, f9⟩ := cf7_ a1.out; obtain ⟨g0, g1, g2, g3, g4, g5⟩ := cc6_ a3.out; obtain ⟨g6, g7, g8, g9, h0⟩ := cf5_ a3.out; have h1 := blk_frozen a3.out 5))
    go_ret
    exact ⟨by first | rfl | (simp [*, errW_none, errW_some] <;> rfl), by repeat (with_reducible first | exact HB.out | apply yac | apply yab | apply yad | refine below_set ?_ (Aside0.out ‹_›))⟩
  ·
   replace c4 := Bool.eq_false_iff.mpr c4
   subst c4
   rw [if_neg (show ¬ (false = true) by decide)] at H
   obtain ⟨b5, A17, H⟩ := bindA H; (try dsimp only at H)
   by_cases c18 : b5 = true
   ·
    subst c18
    rw [if_pos rfl] at H
    obtain ⟨b6, A19, H⟩ := bindA H; (try dsimp only at H); obtain rfl := Option.some.inj H
    go_enter Tryd.func94, Tryd.ntmps94
    go_wp2_with (first | ((with_reducible refine gd_ 2 rfl ?_); refine bx_ 2 rfl #[.string a0_0, .int .i64 a0_1, .bool a0_2, .bool a0_3, .bool a0_4, .bool a0_5, .bool false] 122 ?_; intro a4 hg w20 hbox hb; have a1 := yaa (hbox); have a6 := yaa ((by rw [hg]; exact (below_size (upH HB.out)) : w.heap.size ≤ a4)); replace HB := yaa (below_step (upH HB.out) hb); have a8 := a6; clear hb hbox hg) | ((with_reducible refine gd_ 3 rfl ?_); refine bx_ 3 rfl #[.int .i64 a1_0, .int .i64 a1_1, .string a1_2, .int .i64 a1_3, .slice A1_4 l1_4.length c1_4, .int .i64 a1_5] 65 ?_; intro a5 hg w21 hbox hb; have a3 := yaa (hbox); have a7 := yaa ((by rw [hg]; exact (below_size (by repeat (with_reducible first | exact HB.out | apply yac | apply yab | apply yad | refine below_set ?_ (Aside0.out ‹_›)))) : w.heap.size ≤ a5)); replace HB := yaa (below_step (by repeat (with_reducible first | exact HB.out | apply yac | apply yab | apply yad | refine below_set ?_ (Aside0.out ‹_›))) hb); have a9 := a7; have a0 := yaa ((by rw [hg]; exact Nat.ne_of_lt (blk_lt (upB a1.out)) : a4 ≠ a5)); replace a1 := yaa (blk_below (upB a1.out) hb); have a2 := yaa a0.out.symm; clear hb hbox hg; have p6 := a0.out; have p7 := a2.out; obtain ⟨h2, h3, h4, h5, h6, h7, h8⟩ := cc7_ a1.out; obtain ⟨h9, i0, i1, i2, i3, i4, i5⟩ := cf7_ a1.out; obtain ⟨i6, i7, i8, i9, j0, j1⟩ := cc6_ a3.out; obtain ⟨j2, j3, j4, j5, j6⟩ := cf5_ a3.out; have j7 := blk_frozen a3.out 5) | ((with_reducible refine gc_ 68 rfl ?_); refine gl_ (some 24) rfl Tryd.func68 #[.int .i64 a1_0, .int .i64 0, .int .i64 2] ?_; (with_reducible refine (impl_within.calls a1_0 0 2 true _ A17.out).mono ?_); rintro e w' ⟨rfl, ⟨nd, rfl⟩⟩; refine ⟨_, rfl, ?_⟩) | (go_at_call 68; (with_reducible refine (impl_within.calls a1_3 0 9999 b6 _ A19.out).mono ?_); rintro e w' ⟨rfl, ⟨nd, rfl⟩⟩))
    go_ret
    exact ⟨by first | rfl | (simp [*, errW_none, errW_some] <;> rfl), by repeat (with_reducible first | exact HB.out | apply yac | apply yab | apply yad | refine below_set ?_ (Aside0.out ‹_›))⟩
   ·
    replace c18 := Bool.eq_false_iff.mpr c18
    subst c18
    rw [if_neg (show ¬ (false = true) by decide)] at H
    obtain rfl := Option.some.inj H
    go_enter Tryd.func94, Tryd.ntmps94
    go_wp2_with (first | ((with_reducible refine gd_ 2 rfl ?_); refine bx_ 2 rfl #[.string a0_0, .int .i64 a0_1, .bool a0_2, .bool a0_3, .bool a0_4, .bool a0_5, .bool false] 122 ?_; intro a4 hg w25 hbox hb; have a1 := yaa (hbox); have a6 := yaa ((by rw [hg]; exact (below_size (upH HB.out)) : w.heap.size ≤ a4)); replace HB := yaa (below_step (upH HB.out) hb); have a8 := a6; clear hb hbox hg) | ((with_reducible refine gd_ 3 rfl ?_); refine bx_ 3 rfl #[.int .i64 a1_0, .int .i64 a1_1, .string a1_2, .int .i64 a1_3, .slice A1_4 l1_4.length c1_4, .int .i64 a1_5] 65 ?_; intro a5 hg w26 hbox hb; have a3 := yaa (hbox); have a7 := yaa ((by rw [hg]; exact (below_size (by repeat (with_reducible first | exact HB.out | apply yac | apply yab | apply yad | refine below_set ?_ (Aside0.out ‹_›)))) : w.heap.size ≤ a5)); replace HB := yaa (below_step (by repeat (with_reducible first | exact HB.out | apply yac | apply yab | apply yad | refine below_set ?_ (Aside0.out ‹_›))) hb); have a9 := a7; have a0 := yaa ((by rw [hg]; exact Nat.ne_of_lt (blk_lt (upB a1.out)) : a4 ≠ a5)); replace a1 := yaa (blk_below (upB a1.out) hb); have a2 := yaa a0.out.symm; clear hb hbox hg; have p8 := a0.out; have p9 := a2.out; obtain ⟨j8, j9, k0, k1, k2, k3, k4⟩ := cc7_ a1.out; obtain ⟨k5, k6, k7, k8, k9, l0, l1⟩ := cf7_ a1.out; obtain ⟨l2, l3, l4, l5, l6, l7⟩ := cc6_ a3.out; obtain ⟨l8, l9, m0, m1, m2⟩ := cf5_ a3.out; have m3 := blk_frozen a3.out 5) | ((with_reducible refine gc_ 68 rfl ?_); refine gl_ (some 24) rfl Tryd.func68 #[.int .i64 a1_0, .int .i64 0, .int .i64 2] ?_; (with_reducible refine (impl_within.calls a1_0 0 2 false _ A17.out).mono ?_); rintro e w' ⟨rfl, ⟨nd, rfl⟩⟩; refine ⟨_, rfl, ?_⟩))
    go_ret
    exact ⟨by first | rfl | (simp [*, errW_none, errW_some] <;> rfl), by repeat (with_reducible first | exact HB.out | apply yac | apply yab | apply yad | refine below_set ?_ (Aside0.out ‹_›))⟩
 ·
  rw [if_neg c3] at H
  have p0 := beq_eq_false_iff_ne.mpr c3; have p1 := bne_iff_ne.mpr c3; obtain rfl := Option.some.inj H
  go_enter Tryd.func94, Tryd.ntmps94
  go_wp2_with (first | ((with_reducible refine gd_ 2 rfl ?_); refine bx_ 2 rfl #[.string a0_0, .int .i64 a0_1, .bool a0_2, .bool a0_3, .bool a0_4, .bool a0_5, .bool a0_6] 122 ?_; intro a4 hg w30 hbox hb; have a1 := yaa (hbox); have a6 := yaa ((by rw [hg]; exact (below_size (upH HB.out)) : w.heap.size ≤ a4)); replace HB := yaa (below_step (upH HB.out) hb); have a8 := a6; clear hb hbox hg) | ((with_reducible refine gd_ 3 rfl ?_); refine bx_ 3 rfl #[.int .i64 a1_0, .int .i64 a1_1, .string a1_2, .int .i64 a1_3, .slice A1_4 l1_4.length c1_4, .int .i64 a1_5] 65 ?_; intro a5 hg w31 hbox hb; have a3 := yaa (hbox); have a7 := yaa ((by rw [hg]; exact (below_size (by repeat (with_reducible first | exact HB.out | apply yac | apply yab | apply yad | refine below_set ?_ (Aside0.out ‹_›)))) : w.heap.size ≤ a5)); replace HB := yaa (below_step (by repeat (with_reducible first | exact HB.out | apply yac | apply yab | apply yad | refine below_set ?_ (Aside0.out ‹_›))) hb); have a9 := a7; have a0 := yaa ((by rw [hg]; exact Nat.ne_of_lt (blk_lt (upB a1.out)) : a4 ≠ a5)); replace a1 := yaa (blk_below (upB a1.out) hb); have a2 := yaa a0.out.symm; clear hb hbox hg; have q0 := a0.out; have q1 := a2.out; obtain ⟨m4, m5, m6, m7, m8, m9, n0⟩ := cc7_ a1.out; obtain ⟨n1, n2, n3, n4, n5, n6, n7⟩ := cf7_ a1.out; obtain ⟨n8, n9, o0, o1, o2, o3⟩ := cc6_ a3.out; obtain ⟨o4, o5, o6, o7, o8⟩ := cf5_ a3.out; have o9 := blk_frozen a3.out 5))
  go_ret
  exact ⟨by first | rfl | (simp [*, errW_none, errW_some] <;> rfl), by repeat (with_reducible first | exact HB.out | apply yac | apply yab | apply yad | refine below_set ?_ (Aside0.out ‹_›))⟩
end
section
def laws_eqByteS.l0 : Nat → List Int → List Int → Int → Option (Bool)
 | 0, _, _, _ => none
 | k + 1, x0, x1, x5 => if x5 < (x0.length : Int) then (if 0 ≤ x5 then (if x5 < (x1.length : Int) then (if (rd x0 x5) = (rd x1 x5) then (laws_eqByteS.l0 k x0 x1 (wrap64 (x5 + 1))) else (some false)) else (none)) else (none)) else (some true)
def laws_eqByteS.f (k : Nat) (l0 : List Int) (l1 : List Int) : Option (Bool) := if (l0.length : Int) = (l1.length : Int) then (laws_eqByteS.l0 k l0 l1 0) else (some false)
set_option maxHeartbeats 8000000 in
set_option maxRecDepth 100000 in
theorem laws_eqByteS.calls (k : Nat) (A0 : Option Addr) (c0 : Nat) (l0 : List Int) (A1 : Option Addr) (c1 : Nat) (l1 : List Int) (r : Bool) (w : World) (hr0 : Kd.C (Kd.int .u8) w A0 l0.length l0) (hc0 : l0.length ≤ c0) (hr1 : Kd.C (Kd.int .u8) w A1 l1.length l1) (hc1 : l1.length ≤ c1) (h : laws_eqByteS.f k l0 l1 = some r) :
  Calls Tryd.prog 126 #[.slice A0 l0.length c0, .slice A1 l1.length c1] w fun e w' => e = .returned (.bool r) ∧ Drawn0 w w' := by
 have HR0 := Aside0.mk hr0; have HC0 := Aside0.mk hc0; clear hr0 hc0; have HR1 := Aside0.mk hr1; have HC1 := Aside0.mk hc1; clear hr1 hc1; have H : (if (l0.length : Int) = (l1.length : Int) then (laws_eqByteS.l0 k l0 l1 0) else (some false)) = some r := h; clear h
 by_cases c3 : (l0.length : Int) = (l1.length : Int)
 ·
  rw [if_pos c3] at H
  have a7 := beq_iff_eq.mpr c3; have a8 := bne_eq_false_iff_eq.mpr c3
  have a9 : (l0.length == l1.length) = true := by first | simpa using c3 | (simp at c3 ⊢; omega)
  clear c3; have H' := Aside0.mk H; clear H
  go_enter Tryd.func126, Tryd.ntmps126
  go_wp2
  repeat (go_quiet (fail); try go_wp2)
  (try simp only [Act.put, List.setIfInBounds_toArray, List.set_cons_zero, List.set_cons_succ])
  go_loopg [5] k (fun kq v5 w' => ∃ (a2 : Int), v5 = .int .i64 a2 ∧ Aside0 (laws_eqByteS.l0 kq l0 l1 a2 = some r) ∧ Aside0 (kq ≤ k) ∧ Drawn0 w w')
  case atStart => exact ⟨(0), (by first | rfl | (simp; done) | (simp [*]; done)), H', ⟨Nat.le_refl _⟩, by repeat (first | exact Drawn0.refl _ | apply Drawn0.step)⟩
  case round =>
   clear H'; (try clear c1); (try clear p2); (try clear c3); (try clear a7); (try clear a8); (try clear a9); obtain ⟨a2, rfl, HA, HK1, ⟨m1, rfl⟩⟩ := hrel
   cases gk with
   | zero => exact absurd HA.out (by simp [laws_eqByteS.l0])
   | succ k1 =>
    have H := HA.out; clear HA
    simp only [laws_eqByteS.l0] at H
    by_cases c4 : a2 < (l0.length : Int)
    ·
     rw [if_pos c4] at H
     have b0 : decide (a2 < (l0.length : Int)) = true := decide_eq_true c4; clear c4
     by_cases c5 : 0 ≤ a2
     ·
      rw [if_pos c5] at H
      replace c5 := decide_eq_true c5
      by_cases c6 : a2 < (l1.length : Int)
      ·
       rw [if_pos c6] at H
       replace c6 := decide_eq_true c6
       by_cases c7 : (rd l0 a2) = (rd l1 a2)
       ·
        rw [if_pos c7] at H
        have b1 := beq_iff_eq.mpr c7; have b2 := bne_eq_false_iff_eq.mpr c7; clear c7; have H' := Aside0.mk H; clear H; have p101 : 0 ≤ (a2 : Int) := of_decide_eq_true (by assumption); have q101 : a2 < (l0.length : Int) := of_decide_eq_true (by assumption); obtain ⟨ad101, a5, a3⟩ := Kd.at_int HR0.out a2 p101 q101
        cases a5
        replace p101 := eq_true p101; replace q101 := eq_true q101; have p102 : 0 ≤ (a2 : Int) := of_decide_eq_true (by assumption); have q102 : a2 < (l1.length : Int) := of_decide_eq_true (by assumption); obtain ⟨ad102, a6, a4⟩ := Kd.at_int HR1.out a2 p102 q102
        cases a6
        replace p102 := eq_true p102; replace q102 := eq_true q102
        go_wp2
        repeat (go_quiet (fail); try go_wp2)
        go_roundg k1
        case measure => have := HK1.out; omega
        case rel => exact ⟨(wrap64 (a2 + 1)), (by first | rfl | (simp; done) | (simp [*]; done)), H', ⟨by have := HK1.out; omega⟩, by repeat (first | exact Drawn0.refl _ | apply Drawn0.step)⟩
       ·
        rw [if_neg c7] at H
        have b1 := beq_eq_false_iff_ne.mpr c7; have b2 := bne_iff_ne.mpr c7; obtain rfl := Option.some.inj H; have p101 : 0 ≤ (a2 : Int) := of_decide_eq_true (by assumption); have q101 : a2 < (l0.length : Int) := of_decide_eq_true (by assumption); obtain ⟨ad101, a5, a3⟩ := Kd.at_int HR0.out a2 p101 q101
        cases a5
        replace p101 := eq_true p101; replace q101 := eq_true q101; have p102 : 0 ≤ (a2 : Int) := of_decide_eq_true (by assumption); have q102 : a2 < (l1.length : Int) := of_decide_eq_true (by assumption); obtain ⟨ad102, a6, a4⟩ := Kd.at_int HR1.out a2 p102 q102
        cases a6
        replace p102 := eq_true p102; replace q102 := eq_true q102
        go_wp2
        repeat (go_quiet (fail); try go_wp2)
        go_ret
        exact ⟨by first | rfl | (simp; done) | (simp [*]; done), by repeat (first | exact Drawn0.refl _ | apply Drawn0.step)⟩
      ·
       rw [if_neg c6] at H
       exact absurd H (by simp)
     ·
      rw [if_neg c5] at H
      exact absurd H (by simp)
    ·
     rw [if_neg c4] at H
     have b0 : decide (a2 < (l0.length : Int)) = false := decide_eq_false c4; clear c4; obtain rfl := Option.some.inj H
     go_wp2
     repeat (go_quiet (fail); try go_wp2)
     go_ret
     exact ⟨by first | rfl | (simp; done) | (simp [*]; done), by repeat (first | exact Drawn0.refl _ | apply Drawn0.step)⟩
 ·
  rw [if_neg c3] at H
  have a7 := beq_eq_false_iff_ne.mpr c3; have a8 := bne_iff_ne.mpr c3
  have a9 : (l0.length == l1.length) = false := by first | simpa using c3 | (simp at c3 ⊢; omega)
  obtain rfl := Option.some.inj H
  go_enter Tryd.func126, Tryd.ntmps126
  go_wp2
  repeat (go_quiet (fail); try go_wp2)
  go_ret
  exact ⟨by first | rfl | (simp; done) | (simp [*]; done), by repeat (first | exact Drawn0.refl _ | apply Drawn0.step)⟩
end
section
open Go.Proofs.YtiihhjfdgojkeaaDoorW.PrintWords.Aside0 renaming mk → yaa
open Go.Proofs.YtiihhjfdgojkeaaDoorW.PrintWords renaming pw_below_drewN → yab, below_alloc → yac, below_drew1 → yad, below_set → yae

def laws_eqTenEvent.f (k : Nat) (a0_0 : Int) (a0_1 : ByteArray) (a0_2 : Int) (l0_3 : List Int) (a0_4 : Int) (a1_0 : Int) (a1_1 : ByteArray) (a1_2 : Int) (l1_3 : List Int) (a1_4 : Int) : Option (Bool) := if a0_0 = a1_0 then (if a0_1.toList = a1_1.toList then (if a0_2 = a1_2 then ((laws_eqByteS.f k l0_3 l1_3).bind fun t103 => (if t103 = true then (if a0_4 = a1_4 then (some true) else (some false)) else (some false))) else (some false)) else (some false)) else (some false)
set_option maxHeartbeats 8000000 in
set_option maxRecDepth 100000 in
theorem laws_eqTenEvent.calls (k : Nat) (a0_0 : Int) (a0_1 : ByteArray) (a0_2 : Int) (A0_3 : Option Addr) (c0_3 : Nat) (l0_3 : List Int) (a0_4 : Int) (a1_0 : Int) (a1_1 : ByteArray) (a1_2 : Int) (A1_3 : Option Addr) (c1_3 : Nat) (l1_3 : List Int) (a1_4 : Int) (r : Bool) (w : World) (hr0_3 : Kd.C (Kd.int .u8) w A0_3 l0_3.length l0_3) (hc0_3 : l0_3.length ≤ c0_3) (hr1_3 : Kd.C (Kd.int .u8) w A1_3 l1_3.length l1_3) (hc1_3 : l1_3.length ≤ c1_3) (h : laws_eqTenEvent.f k a0_0 a0_1 a0_2 l0_3 a0_4 a1_0 a1_1 a1_2 l1_3 a1_4 = some r) :
  Calls Tryd.prog 96 #[.agg #[.int .i64 a0_0, .string a0_1, .int .i64 a0_2, .slice A0_3 l0_3.length c0_3, .int .i64 a0_4], .agg #[.int .i64 a1_0, .string a1_1, .int .i64 a1_2, .slice A1_3 l1_3.length c1_3, .int .i64 a1_4]] w fun e w' => e = .returned (.bool r) ∧ Below w.heap.size w w' := by
 have hu63 := Tryd.underlying63; have HR0_3 := yaa hr0_3; have HC0_3 := yaa hc0_3; clear hr0_3 hc0_3; have HR1_3 := yaa hr1_3; have HC1_3 := yaa hc1_3; clear hr1_3 hc1_3; have HB := yaa (Below.refl w.heap.size w); have H : (if a0_0 = a1_0 then (if a0_1.toList = a1_1.toList then (if a0_2 = a1_2 then ((laws_eqByteS.f k l0_3 l1_3).bind fun c6 => (if c6 = true then (if a0_4 = a1_4 then (some true) else (some false)) else (some false))) else (some false)) else (some false)) else (some false)) = some r := h; clear h
 by_cases c3 : a0_0 = a1_0
 ·
  rw [if_pos c3] at H
  have o9 := beq_iff_eq.mpr c3; have p0 := bne_eq_false_iff_eq.mpr c3; clear c3
  by_cases c4 : a0_1.toList = a1_1.toList
  ·
   rw [if_pos c4] at H
   have p1 := beq_iff_eq.mpr c4; have p2 := bne_eq_false_iff_eq.mpr c4; clear c4
   by_cases c5 : a0_2 = a1_2
   ·
    rw [if_pos c5] at H
    have p3 := beq_iff_eq.mpr c5; have p4 := bne_eq_false_iff_eq.mpr c5; clear c5; obtain ⟨c6, A6, H⟩ := bindA H; (try dsimp only at H)
    by_cases c7 : c6 = true
    ·
     subst c7
     rw [if_pos rfl] at H
     by_cases c8 : a0_4 = a1_4
     ·
      rw [if_pos c8] at H
      have p5 := beq_iff_eq.mpr c8; have p6 := bne_eq_false_iff_eq.mpr c8; clear c8; obtain rfl := Option.some.inj H
      go_enter Tryd.func96, Tryd.ntmps96
      go_wp2_with (first | ((with_reducible refine gd_ 2 rfl ?_); refine bx_ 2 rfl #[.int .i64 a0_0, .string a0_1, .int .i64 a0_2, .slice A0_3 l0_3.length c0_3, .int .i64 a0_4] 63 ?_; intro b4 hg w9 hbox hb; have b1 := yaa (hbox); have b6 := yaa ((by rw [hg]; exact (below_size (upH HB.out)) : w.heap.size ≤ b4)); replace HB := yaa (below_step (upH HB.out) hb); have b9 := b6; clear hb hbox hg) | ((with_reducible refine gd_ 3 rfl ?_); refine bx_ 3 rfl #[.int .i64 a1_0, .string a1_1, .int .i64 a1_2, .slice A1_3 l1_3.length c1_3, .int .i64 a1_4] 63 ?_; intro b5 hg w10 hbox hb; have b3 := yaa (hbox); have b7 := yaa ((by rw [hg]; exact (below_size (by repeat (with_reducible first | exact HB.out | apply yac | apply yab | apply yad | refine yae ?_ (Aside0.out ‹_›)))) : w.heap.size ≤ b5)); replace HB := yaa (below_step (by repeat (with_reducible first | exact HB.out | apply yac | apply yab | apply yad | refine yae ?_ (Aside0.out ‹_›))) hb); have c0 := b7; have b0 := yaa ((by rw [hg]; exact Nat.ne_of_lt (blk_lt (upB b1.out)) : b4 ≠ b5)); replace b1 := yaa (blk_below (upB b1.out) hb); have b2 := yaa b0.out.symm; clear hb hbox hg; have p7 := b0.out; have p8 := b2.out; obtain ⟨c9, d0, d1, d2, d3⟩ := cc5_ b1.out; obtain ⟨d4, d5, d6, d7, d8⟩ := cf5_ b1.out; obtain ⟨d9, e0, e1, e2, e3⟩ := cc5_ b3.out; obtain ⟨e4, e5, e6, e7⟩ := cf4_ b3.out; have e8 := blk_frozen b3.out 4) | ((with_reducible refine gc_ 126 rfl ?_); refine gl_ (some 24) rfl Tryd.func126 #[.slice A0_3 l0_3.length c0_3, .slice A1_3 l1_3.length c1_3] ?_; (with_reducible refine (laws_eqByteS.calls k _ _ l0_3 _ _ l1_3 true _ ?side1 ?side2 ?side3 ?side4 A6.out).mono ?_); (case side1 => repeat (first | exact (Kd.C_below HR0_3.out HB.out) | (with_reducible refine Kd.C_alloc ?_ _) | (with_reducible refine Kd.C_drewN ?_ _) | (with_reducible refine Kd.C_drew ?_))); (case side2 => exact HC0_3.out); (case side3 => repeat (first | exact (Kd.C_below HR1_3.out HB.out) | (with_reducible refine Kd.C_alloc ?_ _) | (with_reducible refine Kd.C_drewN ?_ _) | (with_reducible refine Kd.C_drew ?_))); (case side4 => exact HC1_3.out); rintro e w' ⟨rfl, ⟨nd, rfl⟩⟩; refine ⟨_, rfl, ?_⟩))
      go_ret
      exact ⟨by first | rfl | (simp [*, errW_none, errW_some] <;> rfl), by repeat (with_reducible first | exact HB.out | apply yac | apply yab | apply yad | refine yae ?_ (Aside0.out ‹_›))⟩
     ·
      rw [if_neg c8] at H
      have p5 := beq_eq_false_iff_ne.mpr c8; have p6 := bne_iff_ne.mpr c8; obtain rfl := Option.some.inj H
      go_enter Tryd.func96, Tryd.ntmps96
      go_wp2_with (first | ((with_reducible refine gd_ 2 rfl ?_); refine bx_ 2 rfl #[.int .i64 a0_0, .string a0_1, .int .i64 a0_2, .slice A0_3 l0_3.length c0_3, .int .i64 a0_4] 63 ?_; intro b4 hg w14 hbox hb; have b1 := yaa (hbox); have b6 := yaa ((by rw [hg]; exact (below_size (upH HB.out)) : w.heap.size ≤ b4)); replace HB := yaa (below_step (upH HB.out) hb); have b9 := b6; clear hb hbox hg) | ((with_reducible refine gd_ 3 rfl ?_); refine bx_ 3 rfl #[.int .i64 a1_0, .string a1_1, .int .i64 a1_2, .slice A1_3 l1_3.length c1_3, .int .i64 a1_4] 63 ?_; intro b5 hg w15 hbox hb; have b3 := yaa (hbox); have b7 := yaa ((by rw [hg]; exact (below_size (by repeat (with_reducible first | exact HB.out | apply yac | apply yab | apply yad | refine yae ?_ (Aside0.out ‹_›)))) : w.heap.size ≤ b5)); replace HB := yaa (below_step (by repeat (with_reducible first | exact HB.out | apply yac | apply yab | apply yad | refine yae ?_ (Aside0.out ‹_›))) hb); have c0 := b7; have b0 := yaa ((by rw [hg]; exact Nat.ne_of_lt (blk_lt (upB b1.out)) : b4 ≠ b5)); replace b1 := yaa (blk_below (upB b1.out) hb); have b2 := yaa b0.out.symm; clear hb hbox hg; have p9 := b0.out; have q0 := b2.out; obtain ⟨e9, f0, f1, f2, f3⟩ := cc5_ b1.out; obtain ⟨f4, f5, f6, f7, f8⟩ := cf5_ b1.out; obtain ⟨f9, g0, g1, g2, g3⟩ := cc5_ b3.out; obtain ⟨g4, g5, g6, g7⟩ := cf4_ b3.out; have g8 := blk_frozen b3.out 4) | ((with_reducible refine gc_ 126 rfl ?_); refine gl_ (some 24) rfl Tryd.func126 #[.slice A0_3 l0_3.length c0_3, .slice A1_3 l1_3.length c1_3] ?_; (with_reducible refine (laws_eqByteS.calls k _ _ l0_3 _ _ l1_3 true _ ?side1 ?side2 ?side3 ?side4 A6.out).mono ?_); (case side1 => repeat (first | exact (Kd.C_below HR0_3.out HB.out) | (with_reducible refine Kd.C_alloc ?_ _) | (with_reducible refine Kd.C_drewN ?_ _) | (with_reducible refine Kd.C_drew ?_))); (case side2 => exact HC0_3.out); (case side3 => repeat (first | exact (Kd.C_below HR1_3.out HB.out) | (with_reducible refine Kd.C_alloc ?_ _) | (with_reducible refine Kd.C_drewN ?_ _) | (with_reducible refine Kd.C_drew ?_))); (case side4 => exact HC1_3.out); rintro e w' ⟨rfl, ⟨nd, rfl⟩⟩; refine ⟨_, rfl, ?_⟩))
      go_ret
      exact ⟨by first | rfl | (simp [*, errW_none, errW_some] <;> rfl), by repeat (with_reducible first | exact HB.out | apply yac | apply yab | apply yad | refine yae ?_ (Aside0.out ‹_›))⟩
    ·
     replace c7 := Bool.eq_false_iff.mpr c7
     subst c7
     rw [if_neg (show ¬ (false = true) by decide)] at H
     obtain rfl := Option.some.inj H
     go_enter Tryd.func96, Tryd.ntmps96
     go_wp2_with (first | ((with_reducible refine gd_ 2 rfl ?_); refine bx_ 2 rfl #[.int .i64 a0_0, .string a0_1, .int .i64 a0_2, .slice A0_3 l0_3.length c0_3, .int .i64 a0_4] 63 ?_; intro b4 hg w19 hbox hb; have b1 := yaa (hbox); have b6 := yaa ((by rw [hg]; exact (below_size (upH HB.out)) : w.heap.size ≤ b4)); replace HB := yaa (below_step (upH HB.out) hb); have b9 := b6; clear hb hbox hg) | ((with_reducible refine gd_ 3 rfl ?_); refine bx_ 3 rfl #[.int .i64 a1_0, .string a1_1, .int .i64 a1_2, .slice A1_3 l1_3.length c1_3, .int .i64 a1_4] 63 ?_; intro b5 hg w20 hbox hb; have b3 := yaa (hbox); have b7 := yaa ((by rw [hg]; exact (below_size (by repeat (with_reducible first | exact HB.out | apply yac | apply yab | apply yad | refine yae ?_ (Aside0.out ‹_›)))) : w.heap.size ≤ b5)); replace HB := yaa (below_step (by repeat (with_reducible first | exact HB.out | apply yac | apply yab | apply yad | refine yae ?_ (Aside0.out ‹_›))) hb); have c0 := b7; have b0 := yaa ((by rw [hg]; exact Nat.ne_of_lt (blk_lt (upB b1.out)) : b4 ≠ b5)); replace b1 := yaa (blk_below (upB b1.out) hb); have b2 := yaa b0.out.symm; clear hb hbox hg; have q1 := b0.out; have q2 := b2.out; obtain ⟨g9, h0, h1, h2, h3⟩ := cc5_ b1.out; obtain ⟨h4, h5, h6, h7, h8⟩ := cf5_ b1.out; obtain ⟨h9, i0, i1, i2, i3⟩ := cc5_ b3.out; obtain ⟨i4, i5, i6, i7⟩ := cf4_ b3.out; have i8 := blk_frozen b3.out 4) | ((with_reducible refine gc_ 126 rfl ?_); refine gl_ (some 24) rfl Tryd.func126 #[.slice A0_3 l0_3.length c0_3, .slice A1_3 l1_3.length c1_3] ?_; (with_reducible refine (laws_eqByteS.calls k _ _ l0_3 _ _ l1_3 false _ ?side1 ?side2 ?side3 ?side4 A6.out).mono ?_); (case side1 => repeat (first | exact (Kd.C_below HR0_3.out HB.out) | (with_reducible refine Kd.C_alloc ?_ _) | (with_reducible refine Kd.C_drewN ?_ _) | (with_reducible refine Kd.C_drew ?_))); (case side2 => exact HC0_3.out); (case side3 => repeat (first | exact (Kd.C_below HR1_3.out HB.out) | (with_reducible refine Kd.C_alloc ?_ _) | (with_reducible refine Kd.C_drewN ?_ _) | (with_reducible refine Kd.C_drew ?_))); (case side4 => exact HC1_3.out); rintro e w' ⟨rfl, ⟨nd, rfl⟩⟩; refine ⟨_, rfl, ?_⟩))
     go_ret
     exact ⟨by first | rfl | (simp [*, errW_none, errW_some] <;> rfl), by repeat (with_reducible first | exact HB.out | apply yac | apply yab | apply yad | refine yae ?_ (Aside0.out ‹_›))⟩
   ·
    rw [if_neg c5] at H
    have p3 := beq_eq_false_iff_ne.mpr c5; have p4 := bne_iff_ne.mpr c5; obtain rfl := Option.some.inj H
    go_enter Tryd.func96, Tryd.ntmps96
    go_wp2_with (first | ((with_reducible refine gd_ 2 rfl ?_); refine bx_ 2 rfl #[.int .i64 a0_0, .string a0_1, .int .i64 a0_2, .slice A0_3 l0_3.length c0_3, .int .i64 a0_4] 63 ?_; intro b4 hg w24 hbox hb; have b1 := yaa (hbox); have b6 := yaa ((by rw [hg]; exact (below_size (upH HB.out)) : w.heap.size ≤ b4)); replace HB := yaa (below_step (upH HB.out) hb); have b9 := b6; clear hb hbox hg) | ((with_reducible refine gd_ 3 rfl ?_); refine bx_ 3 rfl #[.int .i64 a1_0, .string a1_1, .int .i64 a1_2, .slice A1_3 l1_3.length c1_3, .int .i64 a1_4] 63 ?_; intro b5 hg w25 hbox hb; have b3 := yaa (hbox); have b7 := yaa ((by rw [hg]; exact (below_size (by repeat (with_reducible first | exact HB.out | apply yac | apply yab | apply yad | refine yae ?_ (Aside0.out ‹_›)))) : w.heap.size ≤ b5)); replace HB := yaa (below_step (by repeat (with_reducible first | exact HB.out | apply yac | apply yab | apply yad | refine yae ?_ (Aside0.out ‹_›))) hb); have c0 := b7; have b0 := yaa ((by rw [hg]; exact Nat.ne_of_lt (blk_lt (upB b1.out)) : b4 ≠ b5)); replace b1 := yaa (blk_below (upB b1.out) hb); have b2 := yaa b0.out.symm; clear hb hbox hg; have q3 := b0.out; have q4 := b2.out; obtain ⟨i9, j0, j1, j2, j3⟩ := cc5_ b1.out; obtain ⟨j4, j5, j6, j7, j8⟩ := cf5_ b1.out; obtain ⟨j9, k0, k1, k2, k3⟩ := cc5_ b3.out; obtain ⟨k4, k5, k6, k7⟩ := cf4_ b3.out; have k8 := blk_frozen b3.out 4))
    go_ret
    exact ⟨by first | rfl | (simp [*, errW_none, errW_some] <;> rfl), by repeat (with_reducible first | exact HB.out | apply yac | apply yab | apply yad | refine yae ?_ (Aside0.out ‹_›))⟩
  ·
   rw [if_neg c4] at H
   have p1 := beq_eq_false_iff_ne.mpr c4; have p2 := bne_iff_ne.mpr c4; obtain rfl := Option.some.inj H
   go_enter Tryd.func96, Tryd.ntmps96
   go_wp2_with (first | ((with_reducible refine gd_ 2 rfl ?_); refine bx_ 2 rfl #[.int .i64 a0_0, .string a0_1, .int .i64 a0_2, .slice A0_3 l0_3.length c0_3, .int .i64 a0_4] 63 ?_; intro b4 hg w29 hbox hb; have b1 := yaa (hbox); have b6 := yaa ((by rw [hg]; exact (below_size (upH HB.out)) : w.heap.size ≤ b4)); replace HB := yaa (below_step (upH HB.out) hb); have b9 := b6; clear hb hbox hg) | ((with_reducible refine gd_ 3 rfl ?_); refine bx_ 3 rfl #[.int .i64 a1_0, .string a1_1, .int .i64 a1_2, .slice A1_3 l1_3.length c1_3, .int .i64 a1_4] 63 ?_; intro b5 hg w30 hbox hb; have b3 := yaa (hbox); have b7 := yaa ((by rw [hg]; exact (below_size (by repeat (with_reducible first | exact HB.out | apply yac | apply yab | apply yad | refine yae ?_ (Aside0.out ‹_›)))) : w.heap.size ≤ b5)); replace HB := yaa (below_step (by repeat (with_reducible first | exact HB.out | apply yac | apply yab | apply yad | refine yae ?_ (Aside0.out ‹_›))) hb); have c0 := b7; have b0 := yaa ((by rw [hg]; exact Nat.ne_of_lt (blk_lt (upB b1.out)) : b4 ≠ b5)); replace b1 := yaa (blk_below (upB b1.out) hb); have b2 := yaa b0.out.symm; clear hb hbox hg; have q5 := b0.out; have q6 := b2.out; obtain ⟨k9, l0, l1, l2, l3⟩ := cc5_ b1.out; obtain ⟨l4, l5, l6, l7, l8⟩ := cf5_ b1.out; obtain ⟨l9, m0, m1, m2, m3⟩ := cc5_ b3.out; obtain ⟨m4, m5, m6, m7⟩ := cf4_ b3.out; have m8 := blk_frozen b3.out 4))
   go_ret
   exact ⟨by first | rfl | (simp [*, errW_none, errW_some] <;> rfl), by repeat (with_reducible first | exact HB.out | apply yac | apply yab | apply yad | refine yae ?_ (Aside0.out ‹_›))⟩
 ·
  rw [if_neg c3] at H
  have o9 := beq_eq_false_iff_ne.mpr c3; have p0 := bne_iff_ne.mpr c3; obtain rfl := Option.some.inj H
  go_enter Tryd.func96, Tryd.ntmps96
  go_wp2_with (first | ((with_reducible refine gd_ 2 rfl ?_); refine bx_ 2 rfl #[.int .i64 a0_0, .string a0_1, .int .i64 a0_2, .slice A0_3 l0_3.length c0_3, .int .i64 a0_4] 63 ?_; intro b4 hg w34 hbox hb; have b1 := yaa (hbox); have b6 := yaa ((by rw [hg]; exact (below_size (upH HB.out)) : w.heap.size ≤ b4)); replace HB := yaa (below_step (upH HB.out) hb); have b9 := b6; clear hb hbox hg) | ((with_reducible refine gd_ 3 rfl ?_); refine bx_ 3 rfl #[.int .i64 a1_0, .string a1_1, .int .i64 a1_2, .slice A1_3 l1_3.length c1_3, .int .i64 a1_4] 63 ?_; intro b5 hg w35 hbox hb; have b3 := yaa (hbox); have b7 := yaa ((by rw [hg]; exact (below_size (by repeat (with_reducible first | exact HB.out | apply yac | apply yab | apply yad | refine yae ?_ (Aside0.out ‹_›)))) : w.heap.size ≤ b5)); replace HB := yaa (below_step (by repeat (with_reducible first | exact HB.out | apply yac | apply yab | apply yad | refine yae ?_ (Aside0.out ‹_›))) hb); have c0 := b7; have b0 := yaa ((by rw [hg]; exact Nat.ne_of_lt (blk_lt (upB b1.out)) : b4 ≠ b5)); replace b1 := yaa (blk_below (upB b1.out) hb); have b2 := yaa b0.out.symm; clear hb hbox hg; have q7 := b0.out; have q8 := b2.out; obtain ⟨m9, n0, n1, n2, n3⟩ := cc5_ b1.out; obtain ⟨n4, n5, n6, n7, n8⟩ := cf5_ b1.out; obtain ⟨n9, o0, o1, o2, o3⟩ := cc5_ b3.out; obtain ⟨o4, o5, o6, o7⟩ := cf4_ b3.out; have o8 := blk_frozen b3.out 4))
  go_ret
  exact ⟨by first | rfl | (simp [*, errW_none, errW_some] <;> rfl), by repeat (with_reducible first | exact HB.out | apply yac | apply yab | apply yad | refine yae ?_ (Aside0.out ‹_›))⟩
end
section
open Go.Proofs.YtiihhjfdgojkeaaDoorW.PrintWords.Aside0 renaming mk → yaa
open Go.Proofs.YtiihhjfdgojkeaaDoorW.PrintWords renaming pw_below_drewN → yab

def laws_eqHouEvent.f (k : Nat) (a0_0 : Int) (a0_1 : Int) (a0_2 : ByteArray) (a0_3 : Int) (l0_4 : List Int) (a0_5 : Int) (a1_0 : Int) (a1_1 : Int) (a1_2 : ByteArray) (a1_3 : Int) (l1_4 : List Int) (a1_5 : Int) : Option (Bool) := if a0_0 = a1_0 then ((laws_eqTenEvent.f k a0_1 a0_2 a0_3 l0_4 a0_5 a1_1 a1_2 a1_3 l1_4 a1_5).bind fun t103 => (if t103 = true then (some true) else (some false))) else (some false)
set_option maxHeartbeats 8000000 in
set_option maxRecDepth 100000 in
theorem laws_eqHouEvent.calls (k : Nat) (a0_0 : Int) (a0_1 : Int) (a0_2 : ByteArray) (a0_3 : Int) (A0_4 : Option Addr) (c0_4 : Nat) (l0_4 : List Int) (a0_5 : Int) (a1_0 : Int) (a1_1 : Int) (a1_2 : ByteArray) (a1_3 : Int) (A1_4 : Option Addr) (c1_4 : Nat) (l1_4 : List Int) (a1_5 : Int) (r : Bool) (w : World) (hr0_4 : Kd.C (Kd.int .u8) w A0_4 l0_4.length l0_4) (hc0_4 : l0_4.length ≤ c0_4) (hr1_4 : Kd.C (Kd.int .u8) w A1_4 l1_4.length l1_4) (hc1_4 : l1_4.length ≤ c1_4) (h : laws_eqHouEvent.f k a0_0 a0_1 a0_2 a0_3 l0_4 a0_5 a1_0 a1_1 a1_2 a1_3 l1_4 a1_5 = some r) :
  Calls Tryd.prog 46 #[.agg #[.int .i64 a0_0, .int .i64 a0_1, .string a0_2, .int .i64 a0_3, .slice A0_4 l0_4.length c0_4, .int .i64 a0_5], .agg #[.int .i64 a1_0, .int .i64 a1_1, .string a1_2, .int .i64 a1_3, .slice A1_4 l1_4.length c1_4, .int .i64 a1_5]] w fun e w' => e = .returned (.bool r) ∧ Below w.heap.size w w' := by
 have hu65 := Tryd.underlying65; have hu63 := Tryd.underlying63; have HR0_4 := yaa hr0_4; have HC0_4 := yaa hc0_4; clear hr0_4 hc0_4; have HR1_4 := yaa hr1_4; have HC1_4 := yaa hc1_4; clear hr1_4 hc1_4; have HB := yaa (Below.refl w.heap.size w); have H : (if a0_0 = a1_0 then ((laws_eqTenEvent.f k a0_1 a0_2 a0_3 l0_4 a0_5 a1_1 a1_2 a1_3 l1_4 a1_5).bind fun c1 => (if c1 = true then (some true) else (some false))) else (some false)) = some r := h; clear h
 by_cases c3 : a0_0 = a1_0
 ·
  rw [if_pos c3] at H
  have i6 := beq_iff_eq.mpr c3; have i7 := bne_eq_false_iff_eq.mpr c3; clear c3; obtain ⟨c1, A4, H⟩ := bindA H; (try dsimp only at H)
  by_cases c5 : c1 = true
  ·
   subst c5
   rw [if_pos rfl] at H
   obtain rfl := Option.some.inj H
   go_enter Tryd.func46, Tryd.ntmps46
   go_wp2_with (first | ((with_reducible refine gd_ 2 rfl ?_); refine bx_ 2 rfl #[.int .i64 a0_0, .int .i64 a0_1, .string a0_2, .int .i64 a0_3, .slice A0_4 l0_4.length c0_4, .int .i64 a0_5] 65 ?_; intro b4 hg w6 hbox hb; have b0 := yaa (hbox); have b6 := yaa ((by rw [hg]; exact (below_size (upH HB.out)) : w.heap.size ≤ b4)); replace HB := yaa (below_step (upH HB.out) hb); have b9 := b6; clear hb hbox hg) | ((with_reducible refine gd_ 3 rfl ?_); refine bx_ 3 rfl #[.int .i64 a1_0, .int .i64 a1_1, .string a1_2, .int .i64 a1_3, .slice A1_4 l1_4.length c1_4, .int .i64 a1_5] 65 ?_; intro b5 hg w7 hbox hb; have b2 := yaa (hbox); have b7 := yaa ((by rw [hg]; exact (below_size (by repeat (with_reducible first | exact HB.out | apply below_alloc | apply yab | apply below_drew1 | refine below_set ?_ (Aside0.out ‹_›)))) : w.heap.size ≤ b5)); replace HB := yaa (below_step (by repeat (with_reducible first | exact HB.out | apply below_alloc | apply yab | apply below_drew1 | refine below_set ?_ (Aside0.out ‹_›))) hb); have c0 := b7; have b1 := yaa ((by rw [hg]; exact Nat.ne_of_lt (blk_lt (upB b0.out)) : b4 ≠ b5)); replace b0 := yaa (blk_below (upB b0.out) hb); have b3 := yaa b1.out.symm; clear hb hbox hg; have k4 := b1.out; have k5 := b3.out; obtain ⟨i8, i9, j0, j1, j2, j3⟩ := cc6_ b0.out; obtain ⟨j4, j5, j6, j7, j8, j9⟩ := cf6_ b0.out; obtain ⟨c6, c7, c8, c9, d0, d1⟩ := cc6_ b2.out; obtain ⟨d2, d3, d4, d5, d6⟩ := cf5_ b2.out; have d7 := blk_frozen b2.out 5) | ((with_reducible refine gc_ 96 rfl ?_); refine gl_ (some 14) rfl Tryd.func96 #[.agg #[.int .i64 a0_1, .string a0_2, .int .i64 a0_3, .slice A0_4 l0_4.length c0_4, .int .i64 a0_5], .agg #[.int .i64 a1_1, .string a1_2, .int .i64 a1_3, .slice A1_4 l1_4.length c1_4, .int .i64 a1_5]] ?_; (with_reducible refine (laws_eqTenEvent.calls k a0_1 a0_2 a0_3 _ _ l0_4 a0_5 a1_1 a1_2 a1_3 _ _ l1_4 a1_5 true _ ?side1 ?side2 ?side3 ?side4 A4.out).mono ?_); (case side1 => repeat (first | exact (Kd.C_below HR0_4.out HB.out) | (with_reducible refine Kd.C_alloc ?_ _) | (with_reducible refine Kd.C_drewN ?_ _) | (with_reducible refine Kd.C_drew ?_))); (case side2 => exact HC0_4.out); (case side3 => repeat (first | exact (Kd.C_below HR1_4.out HB.out) | (with_reducible refine Kd.C_alloc ?_ _) | (with_reducible refine Kd.C_drewN ?_ _) | (with_reducible refine Kd.C_drew ?_))); (case side4 => exact HC1_4.out); rintro e w11 ⟨rfl, hb⟩; refine ⟨_, rfl, ?_⟩; replace b0 := yaa (blk_below (upB b0.out) hb); replace b2 := yaa (blk_below (upB b2.out) hb); replace HB := yaa (below_step (by repeat (with_reducible first | exact HB.out | apply below_alloc | apply yab | apply below_drew1 | refine below_set ?_ (Aside0.out ‹_›))) hb); (try clear hb)))
   go_ret
   exact ⟨by first | rfl | (simp [*, errW_none, errW_some] <;> rfl), by repeat (with_reducible first | exact HB.out | apply below_alloc | apply yab | apply below_drew1 | refine below_set ?_ (Aside0.out ‹_›))⟩
  ·
   replace c5 := Bool.eq_false_iff.mpr c5
   subst c5
   rw [if_neg (show ¬ (false = true) by decide)] at H
   obtain rfl := Option.some.inj H
   go_enter Tryd.func46, Tryd.ntmps46
   go_wp2_with (first | ((with_reducible refine gd_ 2 rfl ?_); refine bx_ 2 rfl #[.int .i64 a0_0, .int .i64 a0_1, .string a0_2, .int .i64 a0_3, .slice A0_4 l0_4.length c0_4, .int .i64 a0_5] 65 ?_; intro b4 hg w12 hbox hb; have b0 := yaa (hbox); have b6 := yaa ((by rw [hg]; exact (below_size (upH HB.out)) : w.heap.size ≤ b4)); replace HB := yaa (below_step (upH HB.out) hb); have b9 := b6; clear hb hbox hg) | ((with_reducible refine gd_ 3 rfl ?_); refine bx_ 3 rfl #[.int .i64 a1_0, .int .i64 a1_1, .string a1_2, .int .i64 a1_3, .slice A1_4 l1_4.length c1_4, .int .i64 a1_5] 65 ?_; intro b5 hg w13 hbox hb; have b2 := yaa (hbox); have b7 := yaa ((by rw [hg]; exact (below_size (by repeat (with_reducible first | exact HB.out | apply below_alloc | apply yab | apply below_drew1 | refine below_set ?_ (Aside0.out ‹_›)))) : w.heap.size ≤ b5)); replace HB := yaa (below_step (by repeat (with_reducible first | exact HB.out | apply below_alloc | apply yab | apply below_drew1 | refine below_set ?_ (Aside0.out ‹_›))) hb); have c0 := b7; have b1 := yaa ((by rw [hg]; exact Nat.ne_of_lt (blk_lt (upB b0.out)) : b4 ≠ b5)); replace b0 := yaa (blk_below (upB b0.out) hb); have b3 := yaa b1.out.symm; clear hb hbox hg; have k0 := b1.out; have k1 := b3.out; obtain ⟨d8, d9, e0, e1, e2, e3⟩ := cc6_ b0.out; obtain ⟨e4, e5, e6, e7, e8, e9⟩ := cf6_ b0.out; obtain ⟨f0, f1, f2, f3, f4, f5⟩ := cc6_ b2.out; obtain ⟨f6, f7, f8, f9, g0⟩ := cf5_ b2.out; have g1 := blk_frozen b2.out 5) | ((with_reducible refine gc_ 96 rfl ?_); refine gl_ (some 14) rfl Tryd.func96 #[.agg #[.int .i64 a0_1, .string a0_2, .int .i64 a0_3, .slice A0_4 l0_4.length c0_4, .int .i64 a0_5], .agg #[.int .i64 a1_1, .string a1_2, .int .i64 a1_3, .slice A1_4 l1_4.length c1_4, .int .i64 a1_5]] ?_; (with_reducible refine (laws_eqTenEvent.calls k a0_1 a0_2 a0_3 _ _ l0_4 a0_5 a1_1 a1_2 a1_3 _ _ l1_4 a1_5 false _ ?side1 ?side2 ?side3 ?side4 A4.out).mono ?_); (case side1 => repeat (first | exact (Kd.C_below HR0_4.out HB.out) | (with_reducible refine Kd.C_alloc ?_ _) | (with_reducible refine Kd.C_drewN ?_ _) | (with_reducible refine Kd.C_drew ?_))); (case side2 => exact HC0_4.out); (case side3 => repeat (first | exact (Kd.C_below HR1_4.out HB.out) | (with_reducible refine Kd.C_alloc ?_ _) | (with_reducible refine Kd.C_drewN ?_ _) | (with_reducible refine Kd.C_drew ?_))); (case side4 => exact HC1_4.out); rintro e w17 ⟨rfl, hb⟩; refine ⟨_, rfl, ?_⟩; replace b0 := yaa (blk_below (upB b0.out) hb); replace b2 := yaa (blk_below (upB b2.out) hb); replace HB := yaa (below_step (by repeat (with_reducible first | exact HB.out | apply below_alloc | apply yab | apply below_drew1 | refine below_set ?_ (Aside0.out ‹_›))) hb); (try clear hb)))
   go_ret
   exact ⟨by first | rfl | (simp [*, errW_none, errW_some] <;> rfl), by repeat (with_reducible first | exact HB.out | apply below_alloc | apply yab | apply below_drew1 | refine below_set ?_ (Aside0.out ‹_›))⟩
 ·
  rw [if_neg c3] at H
  have i6 := beq_eq_false_iff_ne.mpr c3; have i7 := bne_iff_ne.mpr c3; obtain rfl := Option.some.inj H
  go_enter Tryd.func46, Tryd.ntmps46
  go_wp2_with (first | ((with_reducible refine gd_ 2 rfl ?_); refine bx_ 2 rfl #[.int .i64 a0_0, .int .i64 a0_1, .string a0_2, .int .i64 a0_3, .slice A0_4 l0_4.length c0_4, .int .i64 a0_5] 65 ?_; intro b4 hg w18 hbox hb; have b0 := yaa (hbox); have b6 := yaa ((by rw [hg]; exact (below_size (upH HB.out)) : w.heap.size ≤ b4)); replace HB := yaa (below_step (upH HB.out) hb); have b9 := b6; clear hb hbox hg) | ((with_reducible refine gd_ 3 rfl ?_); refine bx_ 3 rfl #[.int .i64 a1_0, .int .i64 a1_1, .string a1_2, .int .i64 a1_3, .slice A1_4 l1_4.length c1_4, .int .i64 a1_5] 65 ?_; intro b5 hg w19 hbox hb; have b2 := yaa (hbox); have b7 := yaa ((by rw [hg]; exact (below_size (by repeat (with_reducible first | exact HB.out | apply below_alloc | apply yab | apply below_drew1 | refine below_set ?_ (Aside0.out ‹_›)))) : w.heap.size ≤ b5)); replace HB := yaa (below_step (by repeat (with_reducible first | exact HB.out | apply below_alloc | apply yab | apply below_drew1 | refine below_set ?_ (Aside0.out ‹_›))) hb); have c0 := b7; have b1 := yaa ((by rw [hg]; exact Nat.ne_of_lt (blk_lt (upB b0.out)) : b4 ≠ b5)); replace b0 := yaa (blk_below (upB b0.out) hb); have b3 := yaa b1.out.symm; clear hb hbox hg; have k2 := b1.out; have k3 := b3.out; obtain ⟨g2, g3, g4, g5, g6, g7⟩ := cc6_ b0.out; obtain ⟨g8, g9, h0, h1, h2, h3⟩ := cf6_ b0.out; obtain ⟨h4, h5, h6, h7, h8, h9⟩ := cc6_ b2.out; obtain ⟨i0, i1, i2, i3, i4⟩ := cf5_ b2.out; have i5 := blk_frozen b2.out 5))
  go_ret
  exact ⟨by first | rfl | (simp [*, errW_none, errW_some] <;> rfl), by repeat (with_reducible first | exact HB.out | apply below_alloc | apply yab | apply below_drew1 | refine below_set ?_ (Aside0.out ‹_›))⟩
end
end Go.Proofs.YtiihhjfdgojkeaaDoor.X
namespace Go.Proofs.YtiihhjfdgojkeaaDoor.Opn
open Go.RowKit Go.Proofs.YtiihhjfdgojkeaaDoorW.PrintWords

/-- Every reading of type t is a reading of kind d, of a datum that is good. -/
def Opens (P : Program) (t : TypeId) {α : Type} (d : Kd α) (good : α → Prop) : Prop :=
  P.cellsOf t = d.sz ∧ ∀ (H : Type) (enc : TypeId × Value → H) (w : World) (n : Nat) (cs : List Value) (x : DataW H × List MemPlace),
    DataW.trod enc P w 0 (fun _ => true) true n t cs = some x → ∃ a : α, d.K w a cs ∧ good a

theorem opens_int {P : Program} {t : TypeId} {k : IntKind} (ht : P.underlying t = some (.int k)) (hc : P.cellsOf t = 1) :
    Opens P t (Kd.int k) (fun x => (Lit.int k x).wf = true) :=
  ⟨hc, fun H enc w n cs x h => by
    obtain ⟨m, rfl, _, hw⟩ := DataW.trod_int ht h
    exact ⟨m, rfl, hw⟩⟩

theorem opens_string {P : Program} {t : TypeId} (ht : P.underlying t = some .string) (hc : P.cellsOf t = 1) :
    Opens P t Kd.string (fun s => s.size ≤ maxLen) :=
  ⟨hc, fun H enc w n cs x h => by
    obtain ⟨m, rfl, _, hs⟩ := DataW.trod_string ht h
    exact ⟨m, rfl, hs⟩⟩

theorem list_of_get {α : Type} {n : Nat} {R : Nat → α → Prop} : (∀ i, i < n → ∃ a, R i a) → ∃ l : List α, l.length = n ∧ ∀ (i : Nat) (a : α), l[i]? = some a → R i a := by
  induction n with
  | zero => intro _; exact ⟨[], rfl, fun i a h => by simp at h⟩
  | succ n ih =>
    intro h
    obtain ⟨l, hl, hr⟩ := ih (fun i hi => h i (by omega))
    obtain ⟨a, ha⟩ := h n (by omega)
    refine ⟨l ++ [a], by simp [hl], fun i b hb => ?_⟩
    rcases Nat.lt_or_ge i n with hi | hi
    · rw [List.getElem?_append_left (by omega)] at hb
      exact hr i b hb
    · have : i = n := by
        have := (List.getElem?_eq_some_iff.1 hb).1
        simp at this
        omega
      subst this
      subst hl
      have : a = b := by simpa using hb
      subst this
      exact ha

theorem opens_slice {P : Program} {t e : TypeId} {α : Type} {d : Kd α} {good : α → Prop} (ht : P.underlying t = some (.slice e)) (hc : P.cellsOf t = 1) (he : Opens P e d good) :
    Opens P t (Kd.slice e d) (fun l => l.length ≤ maxLen ∧ ∀ a ∈ l, good a) :=
  ⟨hc, fun H enc w n cs x h => by
    rcases DataW.trod_slice ht h with ⟨rfl, _⟩ | ⟨a, len, cap, elems, rest, m, _, rfl, _, _, hlc, hcm, hel, hget, _, _⟩
    · exact ⟨[], ⟨none, 0, rfl, Nat.le_refl _, rfl, by simp, fun h => by simp at h⟩, by simp, by simp⟩
    · have each : ∀ i, i < len → ∃ y : α, good y ∧ ∃ c : List Value, c.length = d.sz ∧ d.K w y c ∧ ∀ j u, c[j]? = some u → w.cell? (a.add (i * d.sz + j)) = some u := by
        intro i hi
        have hg := hget i hi
        rw [List.getElem?_eq_getElem (by omega), he.1] at hg
        obtain ⟨c, hcs, htr⟩ := Option.bind_eq_some_iff.1 hg
        obtain ⟨_, hcl, hcell⟩ := World.cells?_some hcs
        obtain ⟨y, hK, hgood⟩ := he.2 H enc w m c _ htr
        refine ⟨y, hgood, c, hcl, hK, fun j u hu => ?_⟩
        have hj : j < d.sz := by
          have := (List.getElem?_eq_some_iff.1 hu).1
          omega
        rw [← Addr.add_add, hcell j hj, hu]
      obtain ⟨l, hl, hr⟩ := list_of_get each
      refine ⟨l, ⟨some a, cap, ?_, by omega, rfl, ?_, fun _ => ⟨a, rfl, fun j p hj => (hr j p hj).2⟩⟩, by omega, fun y hy => ?_⟩
      · rw [hl]
      · have : maxLen = 9223372036854775807 := rfl
        omega
      · obtain ⟨i, hi⟩ := List.getElem?_of_mem hy
        exact (hr i y hi).1⟩

/-- The fields from offset 'off' on. -/
def OpensF (P : Program) (fs : List Field) (off : Nat) {α : Type} (d : Kd α) (good : α → Prop) : Prop :=
  ∀ (H : Type) (enc : TypeId × Value → H) (w : World) (n : Nat) (cs : List Value), cs.length = off + d.sz →
    (∀ f ∈ fs, ∃ x, DataW.trod enc P w 0 (fun _ => true) true n f.type ((cs.drop f.offset).take (P.cellsOf f.type)) = some x) →
    ∃ a : α, d.K w a (cs.drop off) ∧ good a

theorem opensF_one {P : Program} {f : Field} {off : Nat} {α : Type} {d : Kd α} {good : α → Prop} (ho : f.offset = off) (h : Opens P f.type d good) : OpensF P [f] off d good := by
  intro H enc w n cs hl hx
  obtain ⟨x, hx⟩ := hx f (by simp)
  obtain ⟨a, hK, hg⟩ := h.2 H enc w n _ x hx
  rw [ho, h.1, List.take_of_length_le (by rw [List.length_drop]; omega)] at hK
  exact ⟨a, hK, hg⟩

theorem opensF_cons {P : Program} {f : Field} {fs : List Field} {off : Nat} {α β : Type} {d : Kd α} {d2 : Kd β} {good : α → Prop} {good2 : β → Prop} (ho : f.offset = off) (h : Opens P f.type d good) (h2 : OpensF P fs (off + d.sz) d2 good2) :
    OpensF P (f :: fs) off (Kd.pair d d2) (fun x => good x.1 ∧ good2 x.2) := by
  intro H enc w n cs hl hx
  have hs : (Kd.pair d d2).sz = d.sz + d2.sz := rfl
  obtain ⟨x, hx0⟩ := hx f (by simp)
  obtain ⟨a, hK, hg⟩ := h.2 H enc w n _ x hx0
  obtain ⟨b, hK2, hg2⟩ := h2 H enc w n cs (by omega) (fun f' hf' => hx f' (by simp [hf']))
  rw [ho, h.1] at hK
  refine ⟨(a, b), ⟨_, _, ?_, hK, hK2⟩, hg, hg2⟩
  rw [← List.drop_drop, List.take_append_drop]

theorem opens_struct {P : Program} {t : TypeId} {fs : Array Field} {α : Type} {d : Kd α} {good : α → Prop} (ht : P.underlying t = some (.struct fs)) (hc : P.cellsOf t = d.sz) (h : OpensF P fs.toList 0 d good) : Opens P t d good :=
  ⟨hc, fun H enc w n cs x hx => by
    obtain ⟨xs, m, _, _, hl, hxl, hget⟩ := DataW.trod_struct ht hx
    have := h H enc w m cs (by omega) (fun f hf => by
      obtain ⟨i, hi⟩ := List.getElem?_of_mem hf
      have hi' : fs[i]? = some f := by simpa using hi
      have hlt : i < xs.length := by
        have := (List.getElem?_eq_some_iff.1 hi).1
        simp at this
        omega
      exact ⟨xs[i], by rw [hget i f hi', List.getElem?_eq_getElem hlt]⟩)
    simpa using this⟩

theorem Opens.of_trod {P : Program} {t : TypeId} {α : Type} {d : Kd α} {good : α → Prop} (h : Opens P t d good) {H : Type} {enc : TypeId × Value → H} {w : World} {v : Value} {x : DataW H} {ps : List MemPlace}
    (ht : DataW.Trod enc P w 0 (fun _ => true) true t v x ps) : ∃ a : α, d.K w a v.cells.toList ∧ good a := by
  obtain ⟨n, hn⟩ := ht
  exact h.2 H enc w n _ _ hn

end Go.Proofs.YtiihhjfdgojkeaaDoor.Opn
namespace Go.Proofs.YtiihhjfdgojkeaaDoor.X
open Go.RowKit Go.Proofs.YtiihhjfdgojkeaaDoorW.PrintWords Go.Proofs.YtiihhjfdgojkeaaDoor.Opn
set_option linter.unusedVariables false
end Go.Proofs.YtiihhjfdgojkeaaDoor.X
namespace Go.Proofs.YtiihhjfdgojkeaaDoor.X
open Go.RowKit Go.Proofs.YtiihhjfdgojkeaaDoorW.PrintWords Go.Proofs.YtiihhjfdgojkeaaDoorW.PrintLast Go.Proofs.YtiihhjfdgojkeaaDoorW.PrintMore
attribute [local go_sem] max2_int min2_int max_two min_two max_three min_three max_four min_four
set_option linter.unusedVariables false
set_option linter.unusedSimpArgs false

section
theorem eqA25 (d : Nat) (w : World) (x0 y0 : Int) (x1 y1 : Int) (x2 y2 : Int) (x3 y3 : Int) (x4 y4 : Int) :
    (Op.equalIn (d + 2) 25 (.agg #[.int .i64 x0, .int .i64 x1, .int .i64 x2, .int .i64 x3, .int .i64 x4]) (.agg #[.int .i64 y0, .int .i64 y1, .int .i64 y2, .int .i64 y3, .int .i64 y4])).run Tryd.prog w = .ok (x0 == y0 && (x1 == y1 && (x2 == y2 && (x3 == y3 && (x4 == y4))))) w := by
  refine eqA_of Tryd.underlying25 (by kernel_rfl) ?_
  refine eqf_cons (by rfl) (by go_simp; rfl) (by go_simp; rfl) (by go_simp) ?_
  refine eqf_cons (by rfl) (by go_simp; rfl) (by go_simp; rfl) (by go_simp) ?_
  refine eqf_cons (by rfl) (by go_simp; rfl) (by go_simp; rfl) (by go_simp) ?_
  refine eqf_cons (by rfl) (by go_simp; rfl) (by go_simp; rfl) (by go_simp) ?_
  exact eqf_last (by rfl) (by go_simp; rfl) (by go_simp; rfl) (by go_simp)
end
section

end
section

end
section
attribute [local go_sem high] eqA25
open Go.Proofs.YtiihhjfdgojkeaaDoorW.PrintWords renaming pw_below_drewN → yaa, below_alloc → yab, below_drew1 → yac, below_set → yae
open Go.Proofs.YtiihhjfdgojkeaaDoorW.PrintWords.Aside0 renaming mk → yad
end
section
open Go.Proofs.YtiihhjfdgojkeaaDoor.X renaming rd_T25 → yaa
end
section
open Go.Proofs.YtiihhjfdgojkeaaDoorW.PrintWords.Drawn0 renaming refl → yaa, step → yab
end
section
open Go.Proofs.YtiihhjfdgojkeaaDoorW.PrintWords.Aside0 renaming mk → yaa
end
section
open Go.Proofs.YtiihhjfdgojkeaaDoorW.PrintWords.Aside0 renaming mk → yaa
open Go.Proofs.YtiihhjfdgojkeaaDoorW.PrintWords renaming pw_below_drewN → yab, below_alloc → yac, below_drew1 → yad, below_size → yae, below_step → yaf, blk_frozen → yag, below_set → yah
end
section

end
section

end
section
open Go.Proofs.YtiihhjfdgojkeaaDoorW.PrintWords.Aside0 renaming mk → yaa
end
section
open Go.Proofs.YtiihhjfdgojkeaaDoorW.PrintWords.Reps renaming one → yaa
open Go.Proofs.YtiihhjfdgojkeaaDoorW.PrintWords.Kd renaming string → yab
open Go.Proofs.YtiihhjfdgojkeaaDoorW.PrintWords.Aside0 renaming mk → yac
end
section
open Go.Proofs.YtiihhjfdgojkeaaDoorW.PrintWords.Aside0 renaming mk → yaa
open Go.Proofs.YtiihhjfdgojkeaaDoorW.PrintWords renaming pw_below_drewN → yab
end
end Go.Proofs.YtiihhjfdgojkeaaDoor.X
