/- Lemmas and contracts for the law FnAskOps, part 2: of the program's functions, and over data alone. Conditions: the listed package-level variables begin as the program's text lays them (tied by the card). -/
import Derived.Test.YtiihhjfdgojkeaaDoorMFnAskOps1
import Derived.Test.YtiihhjfdgojkeaaDoorProg
import Derived.Below
import Derived.Deep.Draws
import Derived.Deep.AppendLies
import Derived.Maps.AppendAt
import Derived.OwnWalk
import Derived.Laws.BytesArg
import Derived.Laws.MakeOwn
import Derived.Laws.OwnMore
import Derived.Deep.OwnRows
import Derived.Tactics
import Derived.Lib.ConvBytes
import Derived.Laws.Slices
import Derived.WalkKit
import Derived.KernelRfl
import Derived.RowKit3
import Derived.Deep.LoopGhost
import Derived.Deep.QuietTactic
import Derived.BigQuiet
import Derived.WideLaws
import Derived.Deep.DeepCutAuto
import Derived.Deep.CutBlock
import Derived.Deep.RegionHeld3
import Derived.Laws.Rows
import Derived.Lib.AppendStr
import Derived.ArgAppend
import Derived.Laws.IdiomCopy
import Derived.OrdersHeld
import Derived.Laws.BitsLemmas
import Derived.RowKit
namespace Go.Proofs.YtiihhjfdgojkeaaDoorW.PrintLast
open Go.RowKit Go.Proofs.YtiihhjfdgojkeaaDoorW.PrintWords
variable {P : Program} {ops : Array Oper} {Q : Exit → Act → World → Prop} {S : World → Prop} {ds : List Nat}
/-- An operation that yields in every world. -/
theorem pz_ {T : Bool × List (List Nat × List Nat)} {oi : Oper} {v : Value} {fuel : Nat} {l : Array Bool} {a : Act} {w : World} (i d : Nat) (l' : Array Bool) (hT : Aside0 (rtab .any ops = T)) (hc : anyT T l.toList l'.toList i = true) {a' : Act}
    (h : wpAnyLast P .any ops Q S ds fuel l' a' w)
    (hi : ops[i]? = some oi := by rfl) (hN : oi.dst = some d := by rfl) (hw : Region.wanted oi (yielded ops a.tmps) = true := by rfl)
    (hy : ∀ w', (execOp a.eval oi).run P w' = .ok (.value v) w' := by (intro w'; go_simp; with_reducible rfl))
    (ha : a.put (some d) v = a' := by (simp only [Act.put, List.setIfInBounds_toArray, List.set_cons_zero, List.set_cons_succ, i64_w, i32_w]; rfl))
    (hQ : ∀ c a w, Q (.panic c) (a.put oi.dst v) w → Q (.panic c) a w := by exact fun _ _ _ h => h) :
    wpAnyLast P .any ops Q S ds (fuel + 1) l a w :=
  pure_ l' hi hN (any_of hT.out hc) hQ (Or.inl ⟨hw, hy⟩) ha h
/-- An operation that reads what S says. -/
theorem tz_ {T : Bool × List (List Nat × List Nat)} {B : List Nat} {oi : Oper} {v : Value} {fuel : Nat} {l : Array Bool} {a : Act} {w : World} (i d : Nat) (l' : Array Bool) (hT : Aside0 (rtab .any ops = T)) (hB : Aside0 (waitsOk T.2 B = true)) (hc : takeW T B ds l.toList l'.toList i = true) (hS : S w) {a' : Act}
    (h : wpAnyLast P .any ops Q S ds fuel l' a' w)
    (hi : ops[i]? = some oi := by rfl) (hN : oi.dst = some d := by rfl) (hw : Region.wanted oi (yielded ops a.tmps) = true := by rfl)
    (hy : ∀ w', S w' → (execOp a.eval oi).run P w' = .ok (.value v) w' := by (intro w' hs; go_simp; with_reducible rfl))
    (ha : a.put (some d) v = a' := by (simp only [Act.put, List.setIfInBounds_toArray, List.set_cons_zero, List.set_cons_succ, i64_w, i32_w]; rfl))
    (hQ : ∀ c a w, Q (.panic c) (a.put oi.dst v) w → Q (.panic c) a w := by exact fun _ _ _ h => h) :
    wpAnyLast P .any ops Q S ds (fuel + 1) l a w :=
  take_ l' hi hN (take_ofW hT.out hB.out hc) hQ (Or.inl ⟨hw, hy⟩) hS ha h
/-! ### What is kept in a world that was made of another one by making blocks and by drawing -/
class UpW (w w' : World) : Prop where
  step : ∀ K : World → Prop, (∀ v O, K v → K (v.alloc O)) → (∀ v, K v → K v.drew) → (∀ v n, K v → K (v.drewN n)) → K w → K w'
instance upw_refl (w : World) : UpW w w := ⟨fun _ _ _ _ h => h⟩
instance upw_alloc (w w' : World) (O : Obj) [h : UpW w w'] : UpW w (w'.alloc O) := ⟨fun K a b c k => a _ _ (h.step K a b c k)⟩
instance upw_drew (w w' : World) [h : UpW w w'] : UpW w w'.drew := ⟨fun K a b c k => b _ (h.step K a b c k)⟩
instance upw_drewN (w w' : World) (n : Nat) [h : UpW w w'] : UpW w (w'.drewN n) := ⟨fun K a b c k => c _ _ (h.step K a b c k)⟩
theorem upB {w w' : World} {g : Nat} {o : Obj} (h : w.heap[g]? = some o) [u : UpW w w'] : w'.heap[g]? = some o := u.step (fun v => v.heap[g]? = some o) (fun _ O k => blk_alloc k O) (fun _ k => blk_drew k) (fun _ n k => blk_drewN k n) h
theorem upR {α : Type} {d : Kd α} {e base : Nat} {ok : Nat → Prop} {w w' : World} {v : Value} {xs : List α} (h : d.R e w base ok v xs) [u : UpW w w'] : d.R e w' base ok v xs := u.step (fun x => d.R e x base ok v xs) (fun _ O k => Kd.R_alloc k O) (fun _ k => Kd.R_drew k) (fun _ n k => Kd.R_drewN k n) h
theorem upH {w0 w w' : World} (h : Below w0.heap.size w0 w) [u : UpW w w'] : Below w0.heap.size w0 w' := u.step (fun x => Below w0.heap.size w0 x) (fun _ O k => below_alloc k O) (fun _ k => below_drew1 k) (fun _ n k => pw_below_drewN k n) h
/-- One world made of another by making a block or by drawing. -/
class OneW (w : outParam World) (w' : World) : Prop where
  up : UpW w w'
instance onew_alloc (w : World) (O : Obj) : OneW w (w.alloc O) := ⟨inferInstance⟩
instance onew_drew (w : World) : OneW w w.drew := ⟨inferInstance⟩
instance onew_drewN (w : World) (n : Nat) : OneW w (w.drewN n) := ⟨inferInstance⟩
theorem oneB {w w' : World} {g : Nat} {o : Obj} (h : w.heap[g]? = some o) [u : OneW w w'] : w'.heap[g]? = some o := @upB _ _ _ _ h u.up
/-! ### Cells of a block -/
section
variable {w : World} {g t : Nat} {a b c d e f i j k : Value}
theorem cc3_ (h : w.heap[g]? = some (.cells #[a, b, c] t (0, 0))) : w.cell? ⟨g, 0, none⟩ = some a ∧ w.cell? ⟨g, 1, none⟩ = some b ∧ w.cell? ⟨g, 2, none⟩ = some c := ⟨(blk_cell h 0).trans rfl, (blk_cell h 1).trans rfl, (blk_cell h 2).trans rfl⟩
theorem cc4_ (h : w.heap[g]? = some (.cells #[a, b, c, d] t (0, 0))) : w.cell? ⟨g, 0, none⟩ = some a ∧ w.cell? ⟨g, 1, none⟩ = some b ∧ w.cell? ⟨g, 2, none⟩ = some c ∧ w.cell? ⟨g, 3, none⟩ = some d := ⟨(blk_cell h 0).trans rfl, (blk_cell h 1).trans rfl, (blk_cell h 2).trans rfl, (blk_cell h 3).trans rfl⟩
theorem cc5_ (h : w.heap[g]? = some (.cells #[a, b, c, d, e] t (0, 0))) : w.cell? ⟨g, 0, none⟩ = some a ∧ w.cell? ⟨g, 1, none⟩ = some b ∧ w.cell? ⟨g, 2, none⟩ = some c ∧ w.cell? ⟨g, 3, none⟩ = some d ∧ w.cell? ⟨g, 4, none⟩ = some e := ⟨(blk_cell h 0).trans rfl, (blk_cell h 1).trans rfl, (blk_cell h 2).trans rfl, (blk_cell h 3).trans rfl, (blk_cell h 4).trans rfl⟩
variable {cs : Array Value}
theorem cf2_ (h : w.heap[g]? = some (.cells cs t (0, 0))) : w.frozen? ⟨g, 0, none⟩ = false ∧ w.frozen? ⟨g, 1, none⟩ = false := ⟨blk_frozen h 0, blk_frozen h 1⟩
theorem cf3_ (h : w.heap[g]? = some (.cells cs t (0, 0))) : w.frozen? ⟨g, 0, none⟩ = false ∧ w.frozen? ⟨g, 1, none⟩ = false ∧ w.frozen? ⟨g, 2, none⟩ = false := ⟨blk_frozen h 0, blk_frozen h 1, blk_frozen h 2⟩
theorem cf4_ (h : w.heap[g]? = some (.cells cs t (0, 0))) : w.frozen? ⟨g, 0, none⟩ = false ∧ w.frozen? ⟨g, 1, none⟩ = false ∧ w.frozen? ⟨g, 2, none⟩ = false ∧ w.frozen? ⟨g, 3, none⟩ = false := ⟨blk_frozen h 0, blk_frozen h 1, blk_frozen h 2, blk_frozen h 3⟩
theorem cf5_ (h : w.heap[g]? = some (.cells cs t (0, 0))) : w.frozen? ⟨g, 0, none⟩ = false ∧ w.frozen? ⟨g, 1, none⟩ = false ∧ w.frozen? ⟨g, 2, none⟩ = false ∧ w.frozen? ⟨g, 3, none⟩ = false ∧ w.frozen? ⟨g, 4, none⟩ = false := ⟨blk_frozen h 0, blk_frozen h 1, blk_frozen h 2, blk_frozen h 3, blk_frozen h 4⟩
end
theorem upc_ {w w' : World} {a : Addr} {v : Value} (hb : Below w.heap.size w w') (h : w.cell? a = some v) : w'.cell? a = some v := (hb.cell (World.block_lt_of_cell? w _ h)).trans h
/-- A step of what a function comes to. -/
theorem bindA {α β : Type} {x : Option α} {f : α → Option β} {r : β} (H : x.bind f = some r) : ∃ a, Aside0 (x = some a) ∧ f a = some r := by
  obtain ⟨a, h, k⟩ := Option.bind_eq_some_iff.mp H
  exact ⟨a, ⟨h⟩, k⟩
/-- n signs, off a number. -/
def bl_ (n m : Nat) : Array Bool := ((List.range n).map fun i => m.testBit i).toArray
theorem bindY {α β : Type} {L : α} {F : α → Option β} {r : Option β} (H : (some L).bind F = r) : ∃ y, y = L ∧ F y = r := ⟨L, rfl, H⟩
section
variable {P : Program} {ops : Array Oper} {rest : List Oper} {o : Oper} {a : Act} {Q : Exit → Act → World → Prop}
/-- A block is made. -/
theorem bx_ {W : World} (N : Tmp) (hd : o.dst = some N) (cs : Array Value) (t : TypeId)
    (h : ∀ g, g = W.heap.size → ∀ w1, w1.heap[g]? = some (.cells cs t (0, 0)) → Below W.heap.size W w1 → wpList P ops Q rest (a.put o.dst (.pointer (some ⟨g, 0, none⟩))) w1)
    (hg : o.guard = none := by first | rfl | (simp [Region.wanted, yielded, *]; done))
    (hr : (execOp a.eval o).run P W = .ok (.value (.pointer (some ⟨W.heap.size, 0, none⟩))) (W.alloc (.cells cs t (0, 0))) := by first | (go_simp; done) | (go_simp; rfl)) : wpList P ops Q (o :: rest) a W := box_event hg hd hr h
theorem gc_ (f : FuncId) {W : World} {as1 : Array Operand} {ts : Array TypeId} (_ho : o.op = .call { callee := .value (.func f), args := as1, argTypes := ts }) (h : wpList P ops Q (o :: rest) a W) : wpList P ops Q (o :: rest) a W := h
theorem gd_ (N : Tmp) {W : World} (_hN : o.dst = some N) (h : wpList P ops Q (o :: rest) a W) : wpList P ops Q (o :: rest) a W := h
/-- A call. -/
theorem gl_ {w : World} (N : Option Tmp) (hd : o.dst = N) {f : FuncId} {fn : Func} {aa : Array Operand} {ts : Array TypeId} (hf : P.funcs[f]? = some fn) (args : Array Value)
    (h : Calls P f args w fun e w' => ∃ v, e = .returned v ∧ wpList P ops Q rest (a.put N v) w') (hg : o.guard = none := by rfl) (hname : (fn.name == "runtime.NumGoroutine") = false := by kernel_rfl) (hb : fn.body.isSome = true := by rfl)
    (hop : o.op = .call { callee := .value (.func f), args := aa, argTypes := ts } := by rfl) (hargs : aa.map a.eval = args := by ((try simp only [List.map_toArray, List.map_cons, List.map_nil]); first | done | rfl | (simp only [List.length_drop, List.length_take]; rfl))) : wpList P ops Q (o :: rest) a w :=
  goesL_ N hd hg hf hname hb args hop hargs h
end
end Go.Proofs.YtiihhjfdgojkeaaDoorW.PrintLast
namespace Go.Proofs.YtiihhjfdgojkeaaDoor.X
open Go.RowKit Go.Proofs.YtiihhjfdgojkeaaDoorW.PrintWords Go.Proofs.YtiihhjfdgojkeaaDoorW.PrintLast Go.Proofs.YtiihhjfdgojkeaaDoorW.PrintMore
attribute [local go_sem] max2_int min2_int max_two min_two max_three min_three max_four min_four
set_option linter.unusedVariables false
set_option linter.unusedSimpArgs false

section
def errW : Option Int → Value
  | none => .nilIface
  | some c => .iface 0 (.int .i64 c)
theorem errW_none : errW none = .nilIface := rfl
theorem errW_some (c : Int) : errW (some c) = .iface 0 (.int .i64 c) := rfl

theorem info5 : (Tryd.prog.info? 5).map (fun i => (i.zero, i.size, i.bytes)) = some (some (.int .u8 0), 1, 1) := by kernel_rfl
theorem info9 : (Tryd.prog.info? 9).map (fun i => (i.zero, i.size, i.bytes)) = some (some (.string ⟨#[]⟩), 1, 16) := by kernel_rfl
theorem info25 : (Tryd.prog.info? 25).map (fun i => (i.zero, i.size, i.bytes)) = some (some (.agg #[(.int .i64 0), (.int .i64 0), (.int .i64 0), (.int .i64 0), (.int .i64 0)]), 5, 40) := by kernel_rfl
-- the values' own types
/-! #### struct type 23 -/
structure S23 where
  f0 : Int
  f1 : Int
  f2 : Int
  f3 : Int
  f4 : Int

/-! #### struct type 25 -/
structure S25 where
  f0 : Int
  f1 : Int
  f2 : Int
  f3 : Int
  f4 : Int
def z25 : S25 := ⟨(0 : Int), (0 : Int), (0 : Int), (0 : Int), (0 : Int)⟩
def k25 : Kd S25 := Kd.iso (Kd.pair (Kd.int .i64) (Kd.pair (Kd.int .i64) (Kd.pair (Kd.int .i64) (Kd.pair (Kd.int .i64) (Kd.int .i64))))) (fun x : S25 => (x.f0, x.f1, x.f2, x.f3, x.f4))
theorem k25_open {w : World} {x : S25} {cs : List Value} (h : k25.K w x cs) : cs = [.int .i64 x.f0, .int .i64 x.f1, .int .i64 x.f2, .int .i64 x.f3, .int .i64 x.f4] := by
  obtain ⟨_, _, rfl, rfl, ⟨_, _, rfl, rfl, ⟨_, _, rfl, rfl, ⟨_, _, rfl, rfl, rfl⟩⟩⟩⟩ := h
  exact rfl
theorem k25_mkM (w : World) (base : Nat) (ok : Nat → Prop) (x : S25)  : k25.M w base ok x [.int .i64 x.f0, .int .i64 x.f1, .int .i64 x.f2, .int .i64 x.f3, .int .i64 x.f4] := ⟨[.int .i64 x.f0], [.int .i64 x.f1, .int .i64 x.f2, .int .i64 x.f3, .int .i64 x.f4], rfl, rfl, ⟨[.int .i64 x.f1], [.int .i64 x.f2, .int .i64 x.f3, .int .i64 x.f4], rfl, rfl, ⟨[.int .i64 x.f2], [.int .i64 x.f3, .int .i64 x.f4], rfl, rfl, ⟨[.int .i64 x.f3], [.int .i64 x.f4], rfl, rfl, rfl⟩⟩⟩⟩
def rd_T25 (xs : List S25) (i : Int) : S25 := xs.getD i.toNat z25
theorem at_T25 {w : World} {A : Option Addr} {n : Nat} {xs : List S25} (h : Kd.C k25 w A n xs) (i : Int) (h0 : 0 ≤ i) (h1 : i < n) : ∃ ad , A = some ad ∧ w.cell? (ad.add (i.toNat * 5)) = some (.int .i64 (rd_T25 xs i).f0) ∧ w.cell? ⟨(ad.add (i.toNat * 5)).block, (ad.add (i.toNat * 5)).off + 1, none⟩ = some (.int .i64 (rd_T25 xs i).f1) ∧ w.cell? ⟨(ad.add (i.toNat * 5)).block, (ad.add (i.toNat * 5)).off + 2, none⟩ = some (.int .i64 (rd_T25 xs i).f2) ∧ w.cell? ⟨(ad.add (i.toNat * 5)).block, (ad.add (i.toNat * 5)).off + 3, none⟩ = some (.int .i64 (rd_T25 xs i).f3) ∧ w.cell? ⟨(ad.add (i.toNat * 5)).block, (ad.add (i.toNat * 5)).off + 4, none⟩ = some (.int .i64 (rd_T25 xs i).f4) := by
  obtain ⟨ad, c, e, _, hK, hc0⟩ := Kd.C_get h z25 i h0 h1
  have hc : ∀ j u, c[j]? = some u → w.cell? (ad.add (i.toNat * 5 + j)) = some u := hc0
  obtain rfl := k25_open hK
  exact ⟨ad, e, hc 0 _ rfl, by rw [← add_field _ _ 1 (by omega)]; exact hc 1 _ rfl, by rw [← add_field _ _ 2 (by omega)]; exact hc 2 _ rfl, by rw [← add_field _ _ 3 (by omega)]; exact hc 3 _ rfl, by rw [← add_field _ _ 4 (by omega)]; exact hc 4 _ rfl⟩
end
section
theorem eqA25 (d : Nat) (w : World) (x0 y0 : Int) (x1 y1 : Int) (x2 y2 : Int) (x3 y3 : Int) (x4 y4 : Int) :
    (Op.equalIn (d + 2) 25 (.agg #[.int .i64 x0, .int .i64 x1, .int .i64 x2, .int .i64 x3, .int .i64 x4]) (.agg #[.int .i64 y0, .int .i64 y1, .int .i64 y2, .int .i64 y3, .int .i64 y4])).run Tryd.prog w = .ok (x0 == y0 && (x1 == y1 && (x2 == y2 && (x3 == y3 && (x4 == y4))))) w := by
  refine eqA_of Tryd.underlying25 (by kernel_rfl) ?_
  refine eqf_cons (by rfl) (by go_simp; rfl) (by go_simp; rfl) (by go_simp) ?_
  refine eqf_cons (by rfl) (by go_simp; rfl) (by go_simp; rfl) (by go_simp) ?_
  refine eqf_cons (by rfl) (by go_simp; rfl) (by go_simp; rfl) (by go_simp) ?_
  refine eqf_cons (by rfl) (by go_simp; rfl) (by go_simp; rfl) (by go_simp) ?_
  exact eqf_last (by rfl) (by go_simp; rfl) (by go_simp; rfl) (by go_simp)
end
section
def impl_within.f (a0 : Int) (a1 : Int) (a2 : Int) : Option (Bool) := if a0 ≥ a1 then (some (decide (a0 ≤ a2))) else (some false)
set_option maxHeartbeats 8000000 in
set_option maxRecDepth 100000 in
theorem impl_within.calls (a0 : Int) (a1 : Int) (a2 : Int) (r : Bool) (w : World) (h : impl_within.f a0 a1 a2 = some r) :
    Calls Tryd.prog 68 #[.int .i64 a0, .int .i64 a1, .int .i64 a2] w fun e w' => e = .returned (.bool r) ∧ Drawn0 w w' := by
  have H : (if a0 ≥ a1 then (some (decide (a0 ≤ a2))) else (some false)) = some r := h; clear h
  by_cases c4 : a0 ≥ a1
  · rw [if_pos c4] at H
    have c4b0 : decide (a1 ≤ a0) = true := decide_eq_true c4; clear c4; obtain rfl := Option.some.inj H
    go_enter Tryd.func68, Tryd.ntmps68
    go_wp2
    go_ret
    exact ⟨by first | rfl | (simp; done) | (simp [*]; done), by repeat (first | exact Drawn0.refl _ | apply Drawn0.step)⟩
  · rw [if_neg c4] at H
    have c4b0 : decide (a1 ≤ a0) = false := decide_eq_false c4; clear c4; obtain rfl := Option.some.inj H
    go_enter Tryd.func68, Tryd.ntmps68
    go_wp2
    go_ret
    exact ⟨by first | rfl | (simp; done) | (simp [*]; done), by repeat (first | exact Drawn0.refl _ | apply Drawn0.step)⟩
end
section
def impl_sizeOk.f (a0 : Int) : Option (Bool) := if a0 ≥ 1 then (some (decide (a0 ≤ 6))) else (some false)
set_option maxHeartbeats 8000000 in
set_option maxRecDepth 100000 in
theorem impl_sizeOk.calls (a0 : Int) (r : Bool) (w : World) (h : impl_sizeOk.f a0 = some r) :
    Calls Tryd.prog 81 #[.int .i64 a0] w fun e w' => e = .returned (.bool r) ∧ Drawn0 w w' := by
  have H : (if a0 ≥ 1 then (some (decide (a0 ≤ 6))) else (some false)) = some r := h; clear h
  by_cases c2 : a0 ≥ 1
  · rw [if_pos c2] at H
    have c2b0 : decide (1 ≤ a0) = true := decide_eq_true c2; clear c2; obtain rfl := Option.some.inj H
    go_enter Tryd.func81, Tryd.ntmps81
    go_wp2
    go_ret
    exact ⟨by first | rfl | (simp; done) | (simp [*]; done), by repeat (first | exact Drawn0.refl _ | apply Drawn0.step)⟩
  · rw [if_neg c2] at H
    have c2b0 : decide (1 ≤ a0) = false := decide_eq_false c2; clear c2; obtain rfl := Option.some.inj H
    go_enter Tryd.func81, Tryd.ntmps81
    go_wp2
    go_ret
    exact ⟨by first | rfl | (simp; done) | (simp [*]; done), by repeat (first | exact Drawn0.refl _ | apply Drawn0.step)⟩
end
section
def impl_partOk.f (a0 : Int) : Option (Bool) := if a0 ≥ 0 then (some (decide (a0 ≤ 255))) else (some false)
set_option maxHeartbeats 8000000 in
set_option maxRecDepth 100000 in
theorem impl_partOk.calls (a0 : Int) (r : Bool) (w : World) (h : impl_partOk.f a0 = some r) :
    Calls Tryd.prog 82 #[.int .i64 a0] w fun e w' => e = .returned (.bool r) ∧ Drawn0 w w' := by
  have H : (if a0 ≥ 0 then (some (decide (a0 ≤ 255))) else (some false)) = some r := h; clear h
  by_cases c2 : a0 ≥ 0
  · rw [if_pos c2] at H
    have c2b0 : decide (0 ≤ a0) = true := decide_eq_true c2; clear c2; obtain rfl := Option.some.inj H
    go_enter Tryd.func82, Tryd.ntmps82
    go_wp2
    go_ret
    exact ⟨by first | rfl | (simp; done) | (simp [*]; done), by repeat (first | exact Drawn0.refl _ | apply Drawn0.step)⟩
  · rw [if_neg c2] at H
    have c2b0 : decide (0 ≤ a0) = false := decide_eq_false c2; clear c2; obtain rfl := Option.some.inj H
    go_enter Tryd.func82, Tryd.ntmps82
    go_wp2
    go_ret
    exact ⟨by first | rfl | (simp; done) | (simp [*]; done), by repeat (first | exact Drawn0.refl _ | apply Drawn0.step)⟩
end
section
attribute [local go_sem high] eqA25
open Go.Proofs.YtiihhjfdgojkeaaDoorW.PrintWords renaming pw_below_drewN → yaa, below_alloc → yab, below_drew1 → yac, below_set → yae
open Go.Proofs.YtiihhjfdgojkeaaDoorW.PrintWords.Aside0 renaming mk → yad

def impl_OpOk.j0 : Nat → Int → Bool → Int → Int → Int → Int → Int → Option (Bool)
 | 0, _, _, _, _, _, _, _ => none
 | k + 1, x4, x25, x102000, x102001, x102002, x102003, x102004 => if x25 = true then (some (x102001 == 0 && (x102002 == 0 && (x102003 == 0 && (x102004 == 0))))) else (if x4 = 7 then ((impl_sizeOk.f x102001).bind fun t106 => (if t106 = true then ((impl_sizeOk.f x102002).bind fun t107 => (if t107 = true then (if x102003 = 0 then (some (x102004 == 0)) else (some false)) else (some false))) else (some false))) else (if x4 = 8 then ((impl_partOk.f x102001).bind fun t108 => (if t108 = true then ((impl_partOk.f x102002).bind fun t109 => (if t109 = true then ((impl_partOk.f x102003).bind fun t110 => (if t110 = true then (some (x102004 == 0)) else (some false))) else (some false))) else (some false))) else (some false)))
def impl_OpOk.f (k : Nat) (a0_0 : Int) (a0_1 : Int) (a0_2 : Int) (a0_3 : Int) (a0_4 : Int) : Option (Bool) := if a0_0 = 1 then ((impl_within.f a0_1 0 5).bind fun t102 => (if t102 = true then ((impl_within.f a0_2 0 5).bind fun t103 => (if t103 = true then ((impl_sizeOk.f a0_3).bind fun t104 => (if t104 = true then ((impl_sizeOk.f a0_4).bind fun t105 => (some t105)) else (some false))) else (some false))) else (some false))) else (if a0_0 = 2 then (impl_OpOk.j0 k a0_0 (a0_0 == 2) a0_0 a0_1 a0_2 a0_3 a0_4) else (if a0_0 = 3 then (impl_OpOk.j0 k a0_0 (a0_0 == 3) a0_0 a0_1 a0_2 a0_3 a0_4) else (if a0_0 = 4 then (impl_OpOk.j0 k a0_0 (a0_0 == 4) a0_0 a0_1 a0_2 a0_3 a0_4) else (if a0_0 = 5 then (impl_OpOk.j0 k a0_0 (a0_0 == 5) a0_0 a0_1 a0_2 a0_3 a0_4) else (impl_OpOk.j0 k a0_0 (a0_0 == 6) a0_0 a0_1 a0_2 a0_3 a0_4)))))
set_option maxHeartbeats 8000000 in
set_option maxRecDepth 100000 in
theorem impl_OpOk.calls (k : Nat) (a0_0 : Int) (a0_1 : Int) (a0_2 : Int) (a0_3 : Int) (a0_4 : Int) (r : Bool) (w : World) (h : impl_OpOk.f k a0_0 a0_1 a0_2 a0_3 a0_4 = some r) :
  Calls Tryd.prog 34 #[.agg #[.int .i64 a0_0, .int .i64 a0_1, .int .i64 a0_2, .int .i64 a0_3, .int .i64 a0_4]] w fun e w' => e = .returned (.bool r) ∧ Below w.heap.size w w' := by
 have hu25 := Tryd.underlying25; have HB := yad (Below.refl w.heap.size w); have H : (if a0_0 = 1 then ((impl_within.f a0_1 0 5).bind fun h6 => (if h6 = true then ((impl_within.f a0_2 0 5).bind fun h7 => (if h7 = true then ((impl_sizeOk.f a0_3).bind fun h8 => (if h8 = true then ((impl_sizeOk.f a0_4).bind fun h9 => (some h9)) else (some false))) else (some false))) else (some false))) else (if a0_0 = 2 then (impl_OpOk.j0 k a0_0 (a0_0 == 2) a0_0 a0_1 a0_2 a0_3 a0_4) else (if a0_0 = 3 then (impl_OpOk.j0 k a0_0 (a0_0 == 3) a0_0 a0_1 a0_2 a0_3 a0_4) else (if a0_0 = 4 then (impl_OpOk.j0 k a0_0 (a0_0 == 4) a0_0 a0_1 a0_2 a0_3 a0_4) else (if a0_0 = 5 then (impl_OpOk.j0 k a0_0 (a0_0 == 5) a0_0 a0_1 a0_2 a0_3 a0_4) else (impl_OpOk.j0 k a0_0 (a0_0 == 6) a0_0 a0_1 a0_2 a0_3 a0_4)))))) = some r := h; clear h
 by_cases c2 : a0_0 = 1
 ·
  rw [if_pos c2] at H
  have i0 := beq_iff_eq.mpr c2; have i1 := bne_eq_false_iff_eq.mpr c2; clear c2; obtain ⟨h6, A3, H⟩ := bindA H; (try dsimp only at H)
  by_cases c4 : h6 = true
  ·
   subst c4
   rw [if_pos rfl] at H
   obtain ⟨h7, A5, H⟩ := bindA H; (try dsimp only at H)
   by_cases c6 : h7 = true
   ·
    subst c6
    rw [if_pos rfl] at H
    obtain ⟨h8, A7, H⟩ := bindA H; (try dsimp only at H)
    by_cases c8 : h8 = true
    ·
     subst c8
     rw [if_pos rfl] at H
     obtain ⟨h9, A9, H⟩ := bindA H; (try dsimp only at H); obtain rfl := Option.some.inj H
     go_enter Tryd.func34, Tryd.ntmps34
     go_wp2_with (first | ((with_reducible refine gd_ 1 rfl ?_); refine bx_ 1 rfl #[.int .i64 a0_0, .int .i64 a0_1, .int .i64 a0_2, .int .i64 a0_3, .int .i64 a0_4] 25 ?_; intro a6 hg w10 hbox hb; have a5 := yad (hbox); have a7 := yad ((by rw [hg]; exact (below_size (upH HB.out)) : w.heap.size ≤ a6)); replace HB := yad (below_step (upH HB.out) hb); have b2 := a7; clear hb hbox hg; obtain ⟨b3, b4, b5, b6, b7⟩ := cc5_ a5.out; obtain ⟨b8, b9, c0, c1⟩ := cf4_ a5.out; have c7 := blk_frozen a5.out 4) | ((with_reducible refine gc_ 68 rfl ?_); refine gl_ (some 9) rfl Tryd.func68 #[.int .i64 a0_1, .int .i64 0, .int .i64 5] ?_; (with_reducible refine (impl_within.calls a0_1 0 5 true _ A3.out).mono ?_); rintro e w' ⟨rfl, ⟨nd, rfl⟩⟩; refine ⟨_, rfl, ?_⟩) | (go_at_call 68; (with_reducible refine (impl_within.calls a0_2 0 5 true _ A5.out).mono ?_); rintro e w' ⟨rfl, ⟨nd, rfl⟩⟩) | (go_at_call 81; (with_reducible refine (impl_sizeOk.calls a0_3 true _ A7.out).mono ?_); rintro e w' ⟨rfl, ⟨nd, rfl⟩⟩) | (go_at_call 81; (with_reducible refine (impl_sizeOk.calls a0_4 h9 _ A9.out).mono ?_); rintro e w' ⟨rfl, ⟨nd, rfl⟩⟩))
     go_ret
     exact ⟨by first | rfl | (simp [*, errW_none, errW_some] <;> rfl), by repeat (with_reducible first | exact HB.out | apply yab | apply yaa | apply yac | refine yae ?_ (Aside0.out ‹_›))⟩
    ·
     replace c8 := Bool.eq_false_iff.mpr c8
     subst c8
     rw [if_neg (show ¬ (false = true) by decide)] at H
     obtain rfl := Option.some.inj H
     go_enter Tryd.func34, Tryd.ntmps34
     go_wp2_with (first | ((with_reducible refine gd_ 1 rfl ?_); refine bx_ 1 rfl #[.int .i64 a0_0, .int .i64 a0_1, .int .i64 a0_2, .int .i64 a0_3, .int .i64 a0_4] 25 ?_; intro a6 hg w12 hbox hb; have a5 := yad (hbox); have a7 := yad ((by rw [hg]; exact (below_size (upH HB.out)) : w.heap.size ≤ a6)); replace HB := yad (below_step (upH HB.out) hb); have b2 := a7; clear hb hbox hg; obtain ⟨c9, d0, d1, d2, d3⟩ := cc5_ a5.out; obtain ⟨d4, d5, d6, d7⟩ := cf4_ a5.out; have d8 := blk_frozen a5.out 4) | ((with_reducible refine gc_ 68 rfl ?_); refine gl_ (some 9) rfl Tryd.func68 #[.int .i64 a0_1, .int .i64 0, .int .i64 5] ?_; (with_reducible refine (impl_within.calls a0_1 0 5 true _ A3.out).mono ?_); rintro e w' ⟨rfl, ⟨nd, rfl⟩⟩; refine ⟨_, rfl, ?_⟩) | (go_at_call 68; (with_reducible refine (impl_within.calls a0_2 0 5 true _ A5.out).mono ?_); rintro e w' ⟨rfl, ⟨nd, rfl⟩⟩) | (go_at_call 81; (with_reducible refine (impl_sizeOk.calls a0_3 false _ A7.out).mono ?_); rintro e w' ⟨rfl, ⟨nd, rfl⟩⟩))
     go_ret
     exact ⟨by first | rfl | (simp [*, errW_none, errW_some] <;> rfl), by repeat (with_reducible first | exact HB.out | apply yab | apply yaa | apply yac | refine yae ?_ (Aside0.out ‹_›))⟩
   ·
    replace c6 := Bool.eq_false_iff.mpr c6
    subst c6
    rw [if_neg (show ¬ (false = true) by decide)] at H
    obtain rfl := Option.some.inj H
    go_enter Tryd.func34, Tryd.ntmps34
    go_wp2_with (first | ((with_reducible refine gd_ 1 rfl ?_); refine bx_ 1 rfl #[.int .i64 a0_0, .int .i64 a0_1, .int .i64 a0_2, .int .i64 a0_3, .int .i64 a0_4] 25 ?_; intro a6 hg w14 hbox hb; have a5 := yad (hbox); have a7 := yad ((by rw [hg]; exact (below_size (upH HB.out)) : w.heap.size ≤ a6)); replace HB := yad (below_step (upH HB.out) hb); have b2 := a7; clear hb hbox hg; obtain ⟨d9, e0, e1, e2, e3⟩ := cc5_ a5.out; obtain ⟨e4, e5, e6, e7⟩ := cf4_ a5.out; have e8 := blk_frozen a5.out 4) | ((with_reducible refine gc_ 68 rfl ?_); refine gl_ (some 9) rfl Tryd.func68 #[.int .i64 a0_1, .int .i64 0, .int .i64 5] ?_; (with_reducible refine (impl_within.calls a0_1 0 5 true _ A3.out).mono ?_); rintro e w' ⟨rfl, ⟨nd, rfl⟩⟩; refine ⟨_, rfl, ?_⟩) | (go_at_call 68; (with_reducible refine (impl_within.calls a0_2 0 5 false _ A5.out).mono ?_); rintro e w' ⟨rfl, ⟨nd, rfl⟩⟩))
    go_ret
    exact ⟨by first | rfl | (simp [*, errW_none, errW_some] <;> rfl), by repeat (with_reducible first | exact HB.out | apply yab | apply yaa | apply yac | refine yae ?_ (Aside0.out ‹_›))⟩
  ·
   replace c4 := Bool.eq_false_iff.mpr c4
   subst c4
   rw [if_neg (show ¬ (false = true) by decide)] at H
   obtain rfl := Option.some.inj H
   go_enter Tryd.func34, Tryd.ntmps34
   go_wp2_with (first | ((with_reducible refine gd_ 1 rfl ?_); refine bx_ 1 rfl #[.int .i64 a0_0, .int .i64 a0_1, .int .i64 a0_2, .int .i64 a0_3, .int .i64 a0_4] 25 ?_; intro a6 hg w16 hbox hb; have a5 := yad (hbox); have a7 := yad ((by rw [hg]; exact (below_size (upH HB.out)) : w.heap.size ≤ a6)); replace HB := yad (below_step (upH HB.out) hb); have b2 := a7; clear hb hbox hg; obtain ⟨e9, f0, f1, f2, f3⟩ := cc5_ a5.out; obtain ⟨f4, f5, f6, f7⟩ := cf4_ a5.out; have f8 := blk_frozen a5.out 4) | ((with_reducible refine gc_ 68 rfl ?_); refine gl_ (some 9) rfl Tryd.func68 #[.int .i64 a0_1, .int .i64 0, .int .i64 5] ?_; (with_reducible refine (impl_within.calls a0_1 0 5 false _ A3.out).mono ?_); rintro e w' ⟨rfl, ⟨nd, rfl⟩⟩; refine ⟨_, rfl, ?_⟩))
   go_ret
   exact ⟨by first | rfl | (simp [*, errW_none, errW_some] <;> rfl), by repeat (with_reducible first | exact HB.out | apply yab | apply yaa | apply yac | refine yae ?_ (Aside0.out ‹_›))⟩
 ·
  rw [if_neg c2] at H
  have i0 := beq_eq_false_iff_ne.mpr c2; have i1 := bne_iff_ne.mpr c2; have HC18 := yad H; clear H
  go_enter Tryd.func34, Tryd.ntmps34
  go_upto_if 25 with (first | ((with_reducible refine gd_ 1 rfl ?_); refine bx_ 1 rfl #[.int .i64 a0_0, .int .i64 a0_1, .int .i64 a0_2, .int .i64 a0_3, .int .i64 a0_4] 25 ?_; intro a6 hg w19 hbox hb; have a5 := yad (hbox); have a7 := yad ((by rw [hg]; exact (below_size (upH HB.out)) : w.heap.size ≤ a6)); replace HB := yad (below_step (upH HB.out) hb); have b2 := a7; clear hb hbox hg; obtain ⟨f9, g0, g1, g2, g3⟩ := cc5_ a5.out; obtain ⟨g4, g5, g6, g7⟩ := cf4_ a5.out; have g8 := blk_frozen a5.out 4))
  (try simp only [Act.put, List.setIfInBounds_toArray, List.set_cons_zero, List.set_cons_succ])
  go_cut [25] (fun v25 wc => ∃ (kq : Nat) (b0 : Bool), v25 = .bool b0 ∧ Aside0 (impl_OpOk.j0 kq a0_0 b0 a0_0 a0_1 a0_2 a0_3 a0_4 = some r) ∧ Aside0 (kq ≤ k) ∧ Aside0 (wc.heap[a6]? = some (.cells #[.int .i64 a0_0, .int .i64 a0_1, .int .i64 a0_2, .int .i64 a0_3, .int .i64 a0_4] 25 (0, 0))) ∧ Aside0 (Below w.heap.size w wc))
  case first =>
   have H := HC18.out; clear HC18
   by_cases c21 : a0_0 = 2
   ·
    rw [if_pos c21] at H
    have a9 := beq_iff_eq.mpr c21; have g9 := bne_eq_false_iff_eq.mpr c21; clear c21
    (first | rw [a9] | (simp only [i64_w, i32_w]; rw [a9]) | skip)
    have H' := yad H; clear H
    go_wp2
    go_meet
    case rel => exact ⟨_, ((a0_0 == 2)), (by first | rfl | (simp; done) | (simp [*]; done)), H', ⟨by first | omega | exact Nat.le_refl _⟩, ⟨by exact upB a5.out⟩, ⟨by repeat (with_reducible first | exact HB.out | apply yab | apply yaa | apply yac | refine yae ?_ (Aside0.out ‹_›))⟩⟩
   ·
    rw [if_neg c21] at H
    have a9 := beq_eq_false_iff_ne.mpr c21; have g9 := bne_iff_ne.mpr c21
    (first | rw [a9] | (simp only [i64_w, i32_w]; rw [a9]) | skip)
    by_cases c22 : a0_0 = 3
    ·
     rw [if_pos c22] at H
     have h0 := beq_iff_eq.mpr c22; have h1 := bne_eq_false_iff_eq.mpr c22; clear c22; have H' := yad H; clear H
     go_wp2
     go_meet
     case rel => exact ⟨_, ((a0_0 == 3)), (by first | rfl | (simp; done) | (simp [*]; done)), H', ⟨by first | omega | exact Nat.le_refl _⟩, ⟨by exact upB a5.out⟩, ⟨by repeat (with_reducible first | exact HB.out | apply yab | apply yaa | apply yac | refine yae ?_ (Aside0.out ‹_›))⟩⟩
    ·
     rw [if_neg c22] at H
     have h0 := beq_eq_false_iff_ne.mpr c22; have h1 := bne_iff_ne.mpr c22
     by_cases c23 : a0_0 = 4
     ·
      rw [if_pos c23] at H
      have h2 := beq_iff_eq.mpr c23; have h3 := bne_eq_false_iff_eq.mpr c23; clear c23; have H' := yad H; clear H
      go_wp2
      go_meet
      case rel => exact ⟨_, ((a0_0 == 4)), (by first | rfl | (simp; done) | (simp [*]; done)), H', ⟨by first | omega | exact Nat.le_refl _⟩, ⟨by exact upB a5.out⟩, ⟨by repeat (with_reducible first | exact HB.out | apply yab | apply yaa | apply yac | refine yae ?_ (Aside0.out ‹_›))⟩⟩
     ·
      rw [if_neg c23] at H
      have h2 := beq_eq_false_iff_ne.mpr c23; have h3 := bne_iff_ne.mpr c23
      by_cases c24 : a0_0 = 5
      ·
       rw [if_pos c24] at H
       have h4 := beq_iff_eq.mpr c24; have h5 := bne_eq_false_iff_eq.mpr c24; clear c24; have H' := yad H; clear H
       go_wp2
       go_meet
       case rel => exact ⟨_, ((a0_0 == 5)), (by first | rfl | (simp; done) | (simp [*]; done)), H', ⟨by first | omega | exact Nat.le_refl _⟩, ⟨by exact upB a5.out⟩, ⟨by repeat (with_reducible first | exact HB.out | apply yab | apply yaa | apply yac | refine yae ?_ (Aside0.out ‹_›))⟩⟩
      ·
       rw [if_neg c24] at H
       have h4 := beq_eq_false_iff_ne.mpr c24; have h5 := bne_iff_ne.mpr c24; have H' := yad H; clear H
       go_wp2
       go_meet
       case rel => exact ⟨_, ((a0_0 == 6)), (by first | rfl | (simp; done) | (simp [*]; done)), H', ⟨by first | omega | exact Nat.le_refl _⟩, ⟨by exact upB a5.out⟩, ⟨by repeat (with_reducible first | exact HB.out | apply yab | apply yaa | apply yac | refine yae ?_ (Aside0.out ‹_›))⟩⟩
  case rest =>
   clear HC18; (try clear c2); (try clear i0); (try clear i1); (try clear p2); (try clear c3); (try clear c4); (try clear c6); (try clear c8); (try clear c21); (try clear a9); (try clear g9); (try clear c22); (try clear h0); (try clear h1); (try clear c23); (try clear h2); (try clear h3); (try clear c24); (try clear h4); (try clear h5); (try clear b3); (try clear b4); (try clear b5); (try clear b6); (try clear b7); (try clear c9); (try clear d0); (try clear d1); (try clear d2); (try clear d3); (try clear d9); (try clear e0); (try clear e1); (try clear e2); (try clear e3); (try clear e9); (try clear f0); (try clear f1); (try clear f2); (try clear f3); (try clear f9); (try clear g0); (try clear g1); (try clear g2); (try clear g3); (try clear b8); (try clear b9); (try clear c0); (try clear c1); (try clear c7); (try clear d4); (try clear d5); (try clear d6); (try clear d7); (try clear d8); (try clear e4); (try clear e5); (try clear e6); (try clear e7); (try clear e8); (try clear f4); (try clear f5); (try clear f6); (try clear f7); (try clear f8); (try clear g4); (try clear g5); (try clear g6); (try clear g7); (try clear g8); obtain ⟨kq, b0, rfl, HA, HJ17, a5, HB⟩ := hcut
   cases kq with
   | zero => exact absurd HA.out (by simp [impl_OpOk.j0])
   | succ kj17 =>
    have H := HA.out; clear HA
    simp only [impl_OpOk.j0] at H
    by_cases c25 : b0 = true
    ·
     subst c25
     rw [if_pos rfl] at H
     obtain rfl := Option.some.inj H; obtain ⟨i8, i9, j1, j2, j3⟩ := cc5_ a5.out; obtain ⟨j4, j5, j6, j7, j8⟩ := cf5_ a5.out
     go_wp2
     go_ret
     exact ⟨by first | rfl | (simp [*, errW_none, errW_some] <;> rfl), by repeat (with_reducible first | exact HB.out | apply yab | apply yaa | apply yac | refine yae ?_ (Aside0.out ‹_›))⟩
    ·
     replace c25 := Bool.eq_false_iff.mpr c25
     subst c25
     rw [if_neg (show ¬ (false = true) by decide)] at H
     by_cases c27 : a0_0 = 7
     ·
      rw [if_pos c27] at H
      have i2 := beq_iff_eq.mpr c27; have i3 := bne_eq_false_iff_eq.mpr c27; clear c27; obtain ⟨s0, A28, H⟩ := bindA H; (try dsimp only at H)
      by_cases c29 : s0 = true
      ·
       subst c29
       rw [if_pos rfl] at H
       obtain ⟨s1, A30, H⟩ := bindA H; (try dsimp only at H)
       by_cases c31 : s1 = true
       ·
        subst c31
        rw [if_pos rfl] at H
        by_cases c32 : a0_3 = 0
        ·
         rw [if_pos c32] at H
         have i4 := beq_iff_eq.mpr c32; have i5 := bne_eq_false_iff_eq.mpr c32; clear c32; obtain rfl := Option.some.inj H; obtain ⟨j9, k0, k1, k2, k3⟩ := cc5_ a5.out; obtain ⟨k4, k5, k6, k7, k8⟩ := cf5_ a5.out
         go_wp2_with (first | ((with_reducible refine gc_ 81 rfl ?_); refine gl_ (some 40) rfl Tryd.func81 #[.int .i64 a0_1] ?_; (with_reducible refine (impl_sizeOk.calls a0_1 true _ A28.out).mono ?_); rintro e w' ⟨rfl, ⟨nd, rfl⟩⟩; refine ⟨_, rfl, ?_⟩) | (go_at_call 81; (with_reducible refine (impl_sizeOk.calls a0_2 true _ A30.out).mono ?_); rintro e w' ⟨rfl, ⟨nd, rfl⟩⟩))
         go_ret
         exact ⟨by first | rfl | (simp [*, errW_none, errW_some] <;> rfl), by repeat (with_reducible first | exact HB.out | apply yab | apply yaa | apply yac | refine yae ?_ (Aside0.out ‹_›))⟩
        ·
         rw [if_neg c32] at H
         have i4 := beq_eq_false_iff_ne.mpr c32; have i5 := bne_iff_ne.mpr c32; obtain rfl := Option.some.inj H; obtain ⟨k9, l0, l1, l2, l3⟩ := cc5_ a5.out; obtain ⟨l4, l5, l6, l7, l8⟩ := cf5_ a5.out
         go_wp2_with (first | ((with_reducible refine gc_ 81 rfl ?_); refine gl_ (some 40) rfl Tryd.func81 #[.int .i64 a0_1] ?_; (with_reducible refine (impl_sizeOk.calls a0_1 true _ A28.out).mono ?_); rintro e w' ⟨rfl, ⟨nd, rfl⟩⟩; refine ⟨_, rfl, ?_⟩) | (go_at_call 81; (with_reducible refine (impl_sizeOk.calls a0_2 true _ A30.out).mono ?_); rintro e w' ⟨rfl, ⟨nd, rfl⟩⟩))
         go_ret
         exact ⟨by first | rfl | (simp [*, errW_none, errW_some] <;> rfl), by repeat (with_reducible first | exact HB.out | apply yab | apply yaa | apply yac | refine yae ?_ (Aside0.out ‹_›))⟩
       ·
        replace c31 := Bool.eq_false_iff.mpr c31
        subst c31
        rw [if_neg (show ¬ (false = true) by decide)] at H
        obtain rfl := Option.some.inj H; obtain ⟨l9, m0, m1, m2, m3⟩ := cc5_ a5.out; obtain ⟨m4, m5, m6, m7, m8⟩ := cf5_ a5.out
        go_wp2_with (first | ((with_reducible refine gc_ 81 rfl ?_); refine gl_ (some 40) rfl Tryd.func81 #[.int .i64 a0_1] ?_; (with_reducible refine (impl_sizeOk.calls a0_1 true _ A28.out).mono ?_); rintro e w' ⟨rfl, ⟨nd, rfl⟩⟩; refine ⟨_, rfl, ?_⟩) | (go_at_call 81; (with_reducible refine (impl_sizeOk.calls a0_2 false _ A30.out).mono ?_); rintro e w' ⟨rfl, ⟨nd, rfl⟩⟩))
        go_ret
        exact ⟨by first | rfl | (simp [*, errW_none, errW_some] <;> rfl), by repeat (with_reducible first | exact HB.out | apply yab | apply yaa | apply yac | refine yae ?_ (Aside0.out ‹_›))⟩
      ·
       replace c29 := Bool.eq_false_iff.mpr c29
       subst c29
       rw [if_neg (show ¬ (false = true) by decide)] at H
       obtain rfl := Option.some.inj H; obtain ⟨m9, n0, n1, n2, n3⟩ := cc5_ a5.out; obtain ⟨n4, n5, n6, n7, n8⟩ := cf5_ a5.out
       go_wp2_with (first | ((with_reducible refine gc_ 81 rfl ?_); refine gl_ (some 40) rfl Tryd.func81 #[.int .i64 a0_1] ?_; (with_reducible refine (impl_sizeOk.calls a0_1 false _ A28.out).mono ?_); rintro e w' ⟨rfl, ⟨nd, rfl⟩⟩; refine ⟨_, rfl, ?_⟩))
       go_ret
       exact ⟨by first | rfl | (simp [*, errW_none, errW_some] <;> rfl), by repeat (with_reducible first | exact HB.out | apply yab | apply yaa | apply yac | refine yae ?_ (Aside0.out ‹_›))⟩
     ·
      rw [if_neg c27] at H
      have i2 := beq_eq_false_iff_ne.mpr c27; have i3 := bne_iff_ne.mpr c27
      by_cases c37 : a0_0 = 8
      ·
       rw [if_pos c37] at H
       have i6 := beq_iff_eq.mpr c37; have i7 := bne_eq_false_iff_eq.mpr c37; clear c37; obtain ⟨s2, A38, H⟩ := bindA H; (try dsimp only at H)
       by_cases c39 : s2 = true
       ·
        subst c39
        rw [if_pos rfl] at H
        obtain ⟨s3, A40, H⟩ := bindA H; (try dsimp only at H)
        by_cases c41 : s3 = true
        ·
         subst c41
         rw [if_pos rfl] at H
         obtain ⟨s4, A42, H⟩ := bindA H; (try dsimp only at H)
         by_cases c43 : s4 = true
         ·
          subst c43
          rw [if_pos rfl] at H
          obtain rfl := Option.some.inj H; obtain ⟨n9, o0, o1, o2, o3⟩ := cc5_ a5.out; obtain ⟨o4, o5, o6, o7, o8⟩ := cf5_ a5.out
          go_wp2_with (first | ((with_reducible refine gc_ 82 rfl ?_); refine gl_ (some 60) rfl Tryd.func82 #[.int .i64 a0_1] ?_; (with_reducible refine (impl_partOk.calls a0_1 true _ A38.out).mono ?_); rintro e w' ⟨rfl, ⟨nd, rfl⟩⟩; refine ⟨_, rfl, ?_⟩) | (go_at_call 82; (with_reducible refine (impl_partOk.calls a0_2 true _ A40.out).mono ?_); rintro e w' ⟨rfl, ⟨nd, rfl⟩⟩) | (go_at_call 82; (with_reducible refine (impl_partOk.calls a0_3 true _ A42.out).mono ?_); rintro e w' ⟨rfl, ⟨nd, rfl⟩⟩))
          go_ret
          exact ⟨by first | rfl | (simp [*, errW_none, errW_some] <;> rfl), by repeat (with_reducible first | exact HB.out | apply yab | apply yaa | apply yac | refine yae ?_ (Aside0.out ‹_›))⟩
         ·
          replace c43 := Bool.eq_false_iff.mpr c43
          subst c43
          rw [if_neg (show ¬ (false = true) by decide)] at H
          obtain rfl := Option.some.inj H; obtain ⟨o9, p0, p1, p3, p4⟩ := cc5_ a5.out; obtain ⟨p5, p6, p7, p8, p9⟩ := cf5_ a5.out
          go_wp2_with (first | ((with_reducible refine gc_ 82 rfl ?_); refine gl_ (some 60) rfl Tryd.func82 #[.int .i64 a0_1] ?_; (with_reducible refine (impl_partOk.calls a0_1 true _ A38.out).mono ?_); rintro e w' ⟨rfl, ⟨nd, rfl⟩⟩; refine ⟨_, rfl, ?_⟩) | (go_at_call 82; (with_reducible refine (impl_partOk.calls a0_2 true _ A40.out).mono ?_); rintro e w' ⟨rfl, ⟨nd, rfl⟩⟩) | (go_at_call 82; (with_reducible refine (impl_partOk.calls a0_3 false _ A42.out).mono ?_); rintro e w' ⟨rfl, ⟨nd, rfl⟩⟩))
          go_ret
          exact ⟨by first | rfl | (simp [*, errW_none, errW_some] <;> rfl), by repeat (with_reducible first | exact HB.out | apply yab | apply yaa | apply yac | refine yae ?_ (Aside0.out ‹_›))⟩
        ·
         replace c41 := Bool.eq_false_iff.mpr c41
         subst c41
         rw [if_neg (show ¬ (false = true) by decide)] at H
         obtain rfl := Option.some.inj H; obtain ⟨q0, q1, q2, q3, q4⟩ := cc5_ a5.out; obtain ⟨q5, q6, q7, q8, q9⟩ := cf5_ a5.out
         go_wp2_with (first | ((with_reducible refine gc_ 82 rfl ?_); refine gl_ (some 60) rfl Tryd.func82 #[.int .i64 a0_1] ?_; (with_reducible refine (impl_partOk.calls a0_1 true _ A38.out).mono ?_); rintro e w' ⟨rfl, ⟨nd, rfl⟩⟩; refine ⟨_, rfl, ?_⟩) | (go_at_call 82; (with_reducible refine (impl_partOk.calls a0_2 false _ A40.out).mono ?_); rintro e w' ⟨rfl, ⟨nd, rfl⟩⟩))
         go_ret
         exact ⟨by first | rfl | (simp [*, errW_none, errW_some] <;> rfl), by repeat (with_reducible first | exact HB.out | apply yab | apply yaa | apply yac | refine yae ?_ (Aside0.out ‹_›))⟩
       ·
        replace c39 := Bool.eq_false_iff.mpr c39
        subst c39
        rw [if_neg (show ¬ (false = true) by decide)] at H
        obtain rfl := Option.some.inj H; obtain ⟨r0, r1, r2, r3, r4⟩ := cc5_ a5.out; obtain ⟨r5, r6, r7, r8, r9⟩ := cf5_ a5.out
        go_wp2_with (first | ((with_reducible refine gc_ 82 rfl ?_); refine gl_ (some 60) rfl Tryd.func82 #[.int .i64 a0_1] ?_; (with_reducible refine (impl_partOk.calls a0_1 false _ A38.out).mono ?_); rintro e w' ⟨rfl, ⟨nd, rfl⟩⟩; refine ⟨_, rfl, ?_⟩))
        go_ret
        exact ⟨by first | rfl | (simp [*, errW_none, errW_some] <;> rfl), by repeat (with_reducible first | exact HB.out | apply yab | apply yaa | apply yac | refine yae ?_ (Aside0.out ‹_›))⟩
      ·
       rw [if_neg c37] at H
       have i6 := beq_eq_false_iff_ne.mpr c37; have i7 := bne_iff_ne.mpr c37; obtain rfl := Option.some.inj H
       go_wp2
       go_ret
       exact ⟨by first | rfl | (simp [*, errW_none, errW_some] <;> rfl), by repeat (with_reducible first | exact HB.out | apply yab | apply yaa | apply yac | refine yae ?_ (Aside0.out ‹_›))⟩
end
section
def spec_l1In.f (a0 : Int) (a1 : Int) (a2 : Int) : Option (Bool) := if a0 ≥ a1 then (some (decide (a0 ≤ a2))) else (some false)
set_option maxHeartbeats 8000000 in
set_option maxRecDepth 100000 in
theorem spec_l1In.calls (a0 : Int) (a1 : Int) (a2 : Int) (r : Bool) (w : World) (h : spec_l1In.f a0 a1 a2 = some r) :
    Calls Tryd.prog 64 #[.int .i64 a0, .int .i64 a1, .int .i64 a2] w fun e w' => e = .returned (.bool r) ∧ Drawn0 w w' := by
  have H : (if a0 ≥ a1 then (some (decide (a0 ≤ a2))) else (some false)) = some r := h; clear h
  by_cases c4 : a0 ≥ a1
  · rw [if_pos c4] at H
    have c4b0 : decide (a1 ≤ a0) = true := decide_eq_true c4; clear c4; obtain rfl := Option.some.inj H
    go_enter Tryd.func64, Tryd.ntmps64
    go_wp2
    go_ret
    exact ⟨by first | rfl | (simp; done) | (simp [*]; done), by repeat (first | exact Drawn0.refl _ | apply Drawn0.step)⟩
  · rw [if_neg c4] at H
    have c4b0 : decide (a1 ≤ a0) = false := decide_eq_false c4; clear c4; obtain rfl := Option.some.inj H
    go_enter Tryd.func64, Tryd.ntmps64
    go_wp2
    go_ret
    exact ⟨by first | rfl | (simp; done) | (simp [*]; done), by repeat (first | exact Drawn0.refl _ | apply Drawn0.step)⟩
end
section
open Go.Proofs.YtiihhjfdgojkeaaDoorW.PrintWords.Aside0 renaming mk → yaa
open Go.Proofs.YtiihhjfdgojkeaaDoorW.PrintWords renaming pw_below_drewN → yab, below_alloc → yac, below_drew1 → yad, below_size → yae, below_step → yaf, blk_frozen → yag, below_set → yah

def spec_OpOk.f (a0_0 : Int) (a0_1 : Int) (a0_2 : Int) (a0_3 : Int) (a0_4 : Int) : Option (Bool) := if a0_0 = 1 then ((spec_l1In.f a0_1 0 5).bind fun t102 => (if t102 = true then ((spec_l1In.f a0_2 0 5).bind fun t103 => (if t103 = true then ((spec_l1In.f a0_3 1 6).bind fun t104 => (if t104 = true then ((spec_l1In.f a0_4 1 6).bind fun t105 => (some t105)) else (some false))) else (some false))) else (some false))) else (if a0_0 = 7 then ((spec_l1In.f a0_1 1 6).bind fun t106 => (if t106 = true then ((spec_l1In.f a0_2 1 6).bind fun t107 => (if t107 = true then (if a0_3 = 0 then (some (a0_4 == 0)) else (some false)) else (some false))) else (some false))) else (if a0_0 = 8 then ((spec_l1In.f a0_1 0 255).bind fun t108 => (if t108 = true then ((spec_l1In.f a0_2 0 255).bind fun t109 => (if t109 = true then ((spec_l1In.f a0_3 0 255).bind fun t110 => (if t110 = true then (some (a0_4 == 0)) else (some false))) else (some false))) else (some false))) else ((spec_l1In.f a0_0 2 6).bind fun t111 => (if t111 = true then (if a0_1 = 0 then (if a0_2 = 0 then (if a0_3 = 0 then (some (a0_4 == 0)) else (some false)) else (some false)) else (some false)) else (some false)))))
set_option maxHeartbeats 8000000 in
set_option maxRecDepth 100000 in
theorem spec_OpOk.calls (a0_0 : Int) (a0_1 : Int) (a0_2 : Int) (a0_3 : Int) (a0_4 : Int) (r : Bool) (w : World) (h : spec_OpOk.f a0_0 a0_1 a0_2 a0_3 a0_4 = some r) :
  Calls Tryd.prog 35 #[.agg #[.int .i64 a0_0, .int .i64 a0_1, .int .i64 a0_2, .int .i64 a0_3, .int .i64 a0_4]] w fun e w' => e = .returned (.bool r) ∧ Below w.heap.size w w' := by
 have hu25 := Tryd.underlying25; have HB := yaa (Below.refl w.heap.size w); have H : (if a0_0 = 1 then ((spec_l1In.f a0_1 0 5).bind fun a6 => (if a6 = true then ((spec_l1In.f a0_2 0 5).bind fun a7 => (if a7 = true then ((spec_l1In.f a0_3 1 6).bind fun a8 => (if a8 = true then ((spec_l1In.f a0_4 1 6).bind fun a9 => (some a9)) else (some false))) else (some false))) else (some false))) else (if a0_0 = 7 then ((spec_l1In.f a0_1 1 6).bind fun b0 => (if b0 = true then ((spec_l1In.f a0_2 1 6).bind fun b1 => (if b1 = true then (if a0_3 = 0 then (some (a0_4 == 0)) else (some false)) else (some false))) else (some false))) else (if a0_0 = 8 then ((spec_l1In.f a0_1 0 255).bind fun b2 => (if b2 = true then ((spec_l1In.f a0_2 0 255).bind fun b3 => (if b3 = true then ((spec_l1In.f a0_3 0 255).bind fun b4 => (if b4 = true then (some (a0_4 == 0)) else (some false))) else (some false))) else (some false))) else ((spec_l1In.f a0_0 2 6).bind fun b5 => (if b5 = true then (if a0_1 = 0 then (if a0_2 = 0 then (if a0_3 = 0 then (some (a0_4 == 0)) else (some false)) else (some false)) else (some false)) else (some false)))))) = some r := h; clear h
 by_cases c2 : a0_0 = 1
 ·
  rw [if_pos c2] at H
  have u2 := beq_iff_eq.mpr c2; have u3 := bne_eq_false_iff_eq.mpr c2; clear c2; obtain ⟨a6, A3, H⟩ := bindA H; (try dsimp only at H)
  by_cases c4 : a6 = true
  ·
   subst c4
   rw [if_pos rfl] at H
   obtain ⟨a7, A5, H⟩ := bindA H; (try dsimp only at H)
   by_cases c6 : a7 = true
   ·
    subst c6
    rw [if_pos rfl] at H
    obtain ⟨a8, A7, H⟩ := bindA H; (try dsimp only at H)
    by_cases c8 : a8 = true
    ·
     subst c8
     rw [if_pos rfl] at H
     obtain ⟨a9, A9, H⟩ := bindA H; (try dsimp only at H); obtain rfl := Option.some.inj H
     go_enter Tryd.func35, Tryd.ntmps35
     go_wp2_with (first | ((with_reducible refine gd_ 1 rfl ?_); refine bx_ 1 rfl #[.int .i64 a0_0, .int .i64 a0_1, .int .i64 a0_2, .int .i64 a0_3, .int .i64 a0_4] 25 ?_; intro a1 hg w10 hbox hb; have a0 := yaa (hbox); have a2 := yaa ((by rw [hg]; exact (yae (upH HB.out)) : w.heap.size ≤ a1)); replace HB := yaa (yaf (upH HB.out) hb); have a3 := a2; clear hb hbox hg; obtain ⟨d2, d3, d4, d5, d6⟩ := cc5_ a0.out; obtain ⟨d7, d8, d9, e0⟩ := cf4_ a0.out; have e1 := yag a0.out 4) | ((with_reducible refine gc_ 64 rfl ?_); refine gl_ (some 9) rfl Tryd.func64 #[.int .i64 a0_1, .int .i64 0, .int .i64 5] ?_; (with_reducible refine (spec_l1In.calls a0_1 0 5 true _ A3.out).mono ?_); rintro e w' ⟨rfl, ⟨nd, rfl⟩⟩; refine ⟨_, rfl, ?_⟩) | (go_at_call 64; (with_reducible refine (spec_l1In.calls a0_2 0 5 true _ A5.out).mono ?_); rintro e w' ⟨rfl, ⟨nd, rfl⟩⟩) | (go_at_call 64; (with_reducible refine (spec_l1In.calls a0_3 1 6 true _ A7.out).mono ?_); rintro e w' ⟨rfl, ⟨nd, rfl⟩⟩) | (go_at_call 64; (with_reducible refine (spec_l1In.calls a0_4 1 6 a9 _ A9.out).mono ?_); rintro e w' ⟨rfl, ⟨nd, rfl⟩⟩))
     go_ret
     exact ⟨by first | rfl | (simp [*, errW_none, errW_some] <;> rfl), by repeat (with_reducible first | exact HB.out | apply yac | apply yab | apply yad | refine yah ?_ (Aside0.out ‹_›))⟩
    ·
     replace c8 := Bool.eq_false_iff.mpr c8
     subst c8
     rw [if_neg (show ¬ (false = true) by decide)] at H
     obtain rfl := Option.some.inj H
     go_enter Tryd.func35, Tryd.ntmps35
     go_wp2_with (first | ((with_reducible refine gd_ 1 rfl ?_); refine bx_ 1 rfl #[.int .i64 a0_0, .int .i64 a0_1, .int .i64 a0_2, .int .i64 a0_3, .int .i64 a0_4] 25 ?_; intro a1 hg w12 hbox hb; have a0 := yaa (hbox); have a2 := yaa ((by rw [hg]; exact (yae (upH HB.out)) : w.heap.size ≤ a1)); replace HB := yaa (yaf (upH HB.out) hb); have a3 := a2; clear hb hbox hg; obtain ⟨e2, e3, e4, e5, e6⟩ := cc5_ a0.out; obtain ⟨e7, e8, e9, f0⟩ := cf4_ a0.out; have f1 := yag a0.out 4) | ((with_reducible refine gc_ 64 rfl ?_); refine gl_ (some 9) rfl Tryd.func64 #[.int .i64 a0_1, .int .i64 0, .int .i64 5] ?_; (with_reducible refine (spec_l1In.calls a0_1 0 5 true _ A3.out).mono ?_); rintro e w' ⟨rfl, ⟨nd, rfl⟩⟩; refine ⟨_, rfl, ?_⟩) | (go_at_call 64; (with_reducible refine (spec_l1In.calls a0_2 0 5 true _ A5.out).mono ?_); rintro e w' ⟨rfl, ⟨nd, rfl⟩⟩) | (go_at_call 64; (with_reducible refine (spec_l1In.calls a0_3 1 6 false _ A7.out).mono ?_); rintro e w' ⟨rfl, ⟨nd, rfl⟩⟩))
     go_ret
     exact ⟨by first | rfl | (simp [*, errW_none, errW_some] <;> rfl), by repeat (with_reducible first | exact HB.out | apply yac | apply yab | apply yad | refine yah ?_ (Aside0.out ‹_›))⟩
   ·
    replace c6 := Bool.eq_false_iff.mpr c6
    subst c6
    rw [if_neg (show ¬ (false = true) by decide)] at H
    obtain rfl := Option.some.inj H
    go_enter Tryd.func35, Tryd.ntmps35
    go_wp2_with (first | ((with_reducible refine gd_ 1 rfl ?_); refine bx_ 1 rfl #[.int .i64 a0_0, .int .i64 a0_1, .int .i64 a0_2, .int .i64 a0_3, .int .i64 a0_4] 25 ?_; intro a1 hg w14 hbox hb; have a0 := yaa (hbox); have a2 := yaa ((by rw [hg]; exact (yae (upH HB.out)) : w.heap.size ≤ a1)); replace HB := yaa (yaf (upH HB.out) hb); have a3 := a2; clear hb hbox hg; obtain ⟨f2, f3, f4, f5, f6⟩ := cc5_ a0.out; obtain ⟨f7, f8, f9, g0⟩ := cf4_ a0.out; have g1 := yag a0.out 4) | ((with_reducible refine gc_ 64 rfl ?_); refine gl_ (some 9) rfl Tryd.func64 #[.int .i64 a0_1, .int .i64 0, .int .i64 5] ?_; (with_reducible refine (spec_l1In.calls a0_1 0 5 true _ A3.out).mono ?_); rintro e w' ⟨rfl, ⟨nd, rfl⟩⟩; refine ⟨_, rfl, ?_⟩) | (go_at_call 64; (with_reducible refine (spec_l1In.calls a0_2 0 5 false _ A5.out).mono ?_); rintro e w' ⟨rfl, ⟨nd, rfl⟩⟩))
    go_ret
    exact ⟨by first | rfl | (simp [*, errW_none, errW_some] <;> rfl), by repeat (with_reducible first | exact HB.out | apply yac | apply yab | apply yad | refine yah ?_ (Aside0.out ‹_›))⟩
  ·
   replace c4 := Bool.eq_false_iff.mpr c4
   subst c4
   rw [if_neg (show ¬ (false = true) by decide)] at H
   obtain rfl := Option.some.inj H
   go_enter Tryd.func35, Tryd.ntmps35
   go_wp2_with (first | ((with_reducible refine gd_ 1 rfl ?_); refine bx_ 1 rfl #[.int .i64 a0_0, .int .i64 a0_1, .int .i64 a0_2, .int .i64 a0_3, .int .i64 a0_4] 25 ?_; intro a1 hg w16 hbox hb; have a0 := yaa (hbox); have a2 := yaa ((by rw [hg]; exact (yae (upH HB.out)) : w.heap.size ≤ a1)); replace HB := yaa (yaf (upH HB.out) hb); have a3 := a2; clear hb hbox hg; obtain ⟨g2, g3, g4, g5, g6⟩ := cc5_ a0.out; obtain ⟨g7, g8, g9, h0⟩ := cf4_ a0.out; have h1 := yag a0.out 4) | ((with_reducible refine gc_ 64 rfl ?_); refine gl_ (some 9) rfl Tryd.func64 #[.int .i64 a0_1, .int .i64 0, .int .i64 5] ?_; (with_reducible refine (spec_l1In.calls a0_1 0 5 false _ A3.out).mono ?_); rintro e w' ⟨rfl, ⟨nd, rfl⟩⟩; refine ⟨_, rfl, ?_⟩))
   go_ret
   exact ⟨by first | rfl | (simp [*, errW_none, errW_some] <;> rfl), by repeat (with_reducible first | exact HB.out | apply yac | apply yab | apply yad | refine yah ?_ (Aside0.out ‹_›))⟩
 ·
  rw [if_neg c2] at H
  have u2 := beq_eq_false_iff_ne.mpr c2; have u3 := bne_iff_ne.mpr c2
  by_cases c18 : a0_0 = 7
  ·
   rw [if_pos c18] at H
   have b6 := beq_iff_eq.mpr c18; have b7 := bne_eq_false_iff_eq.mpr c18; clear c18; obtain ⟨b0, A19, H⟩ := bindA H; (try dsimp only at H)
   by_cases c20 : b0 = true
   ·
    subst c20
    rw [if_pos rfl] at H
    obtain ⟨b1, A21, H⟩ := bindA H; (try dsimp only at H)
    by_cases c22 : b1 = true
    ·
     subst c22
     rw [if_pos rfl] at H
     by_cases c23 : a0_3 = 0
     ·
      rw [if_pos c23] at H
      have b8 := beq_iff_eq.mpr c23; have b9 := bne_eq_false_iff_eq.mpr c23; clear c23; obtain rfl := Option.some.inj H
      go_enter Tryd.func35, Tryd.ntmps35
      go_wp2_with (first | ((with_reducible refine gd_ 1 rfl ?_); refine bx_ 1 rfl #[.int .i64 a0_0, .int .i64 a0_1, .int .i64 a0_2, .int .i64 a0_3, .int .i64 a0_4] 25 ?_; intro a1 hg w24 hbox hb; have a0 := yaa (hbox); have a2 := yaa ((by rw [hg]; exact (yae (upH HB.out)) : w.heap.size ≤ a1)); replace HB := yaa (yaf (upH HB.out) hb); have a3 := a2; clear hb hbox hg; obtain ⟨h2, h3, h4, h5, h6⟩ := cc5_ a0.out; obtain ⟨h7, h8, h9, i0⟩ := cf4_ a0.out; have i1 := yag a0.out 4) | ((with_reducible refine gc_ 64 rfl ?_); refine gl_ (some 29) rfl Tryd.func64 #[.int .i64 a0_1, .int .i64 1, .int .i64 6] ?_; (with_reducible refine (spec_l1In.calls a0_1 1 6 true _ A19.out).mono ?_); rintro e w' ⟨rfl, ⟨nd, rfl⟩⟩; refine ⟨_, rfl, ?_⟩) | (go_at_call 64; (with_reducible refine (spec_l1In.calls a0_2 1 6 true _ A21.out).mono ?_); rintro e w' ⟨rfl, ⟨nd, rfl⟩⟩))
      go_ret
      exact ⟨by first | rfl | (simp [*, errW_none, errW_some] <;> rfl), by repeat (with_reducible first | exact HB.out | apply yac | apply yab | apply yad | refine yah ?_ (Aside0.out ‹_›))⟩
     ·
      rw [if_neg c23] at H
      have b8 := beq_eq_false_iff_ne.mpr c23; have b9 := bne_iff_ne.mpr c23; obtain rfl := Option.some.inj H
      go_enter Tryd.func35, Tryd.ntmps35
      go_wp2_with (first | ((with_reducible refine gd_ 1 rfl ?_); refine bx_ 1 rfl #[.int .i64 a0_0, .int .i64 a0_1, .int .i64 a0_2, .int .i64 a0_3, .int .i64 a0_4] 25 ?_; intro a1 hg w26 hbox hb; have a0 := yaa (hbox); have a2 := yaa ((by rw [hg]; exact (yae (upH HB.out)) : w.heap.size ≤ a1)); replace HB := yaa (yaf (upH HB.out) hb); have a3 := a2; clear hb hbox hg; obtain ⟨i2, i3, i4, i5, i6⟩ := cc5_ a0.out; obtain ⟨i7, i8, i9, j0⟩ := cf4_ a0.out; have j1 := yag a0.out 4) | ((with_reducible refine gc_ 64 rfl ?_); refine gl_ (some 29) rfl Tryd.func64 #[.int .i64 a0_1, .int .i64 1, .int .i64 6] ?_; (with_reducible refine (spec_l1In.calls a0_1 1 6 true _ A19.out).mono ?_); rintro e w' ⟨rfl, ⟨nd, rfl⟩⟩; refine ⟨_, rfl, ?_⟩) | (go_at_call 64; (with_reducible refine (spec_l1In.calls a0_2 1 6 true _ A21.out).mono ?_); rintro e w' ⟨rfl, ⟨nd, rfl⟩⟩))
      go_ret
      exact ⟨by first | rfl | (simp [*, errW_none, errW_some] <;> rfl), by repeat (with_reducible first | exact HB.out | apply yac | apply yab | apply yad | refine yah ?_ (Aside0.out ‹_›))⟩
    ·
     replace c22 := Bool.eq_false_iff.mpr c22
     subst c22
     rw [if_neg (show ¬ (false = true) by decide)] at H
     obtain rfl := Option.some.inj H
     go_enter Tryd.func35, Tryd.ntmps35
     go_wp2_with (first | ((with_reducible refine gd_ 1 rfl ?_); refine bx_ 1 rfl #[.int .i64 a0_0, .int .i64 a0_1, .int .i64 a0_2, .int .i64 a0_3, .int .i64 a0_4] 25 ?_; intro a1 hg w28 hbox hb; have a0 := yaa (hbox); have a2 := yaa ((by rw [hg]; exact (yae (upH HB.out)) : w.heap.size ≤ a1)); replace HB := yaa (yaf (upH HB.out) hb); have a3 := a2; clear hb hbox hg; obtain ⟨j2, j3, j4, j5, j6⟩ := cc5_ a0.out; obtain ⟨j7, j8, j9, k0⟩ := cf4_ a0.out; have k1 := yag a0.out 4) | ((with_reducible refine gc_ 64 rfl ?_); refine gl_ (some 29) rfl Tryd.func64 #[.int .i64 a0_1, .int .i64 1, .int .i64 6] ?_; (with_reducible refine (spec_l1In.calls a0_1 1 6 true _ A19.out).mono ?_); rintro e w' ⟨rfl, ⟨nd, rfl⟩⟩; refine ⟨_, rfl, ?_⟩) | (go_at_call 64; (with_reducible refine (spec_l1In.calls a0_2 1 6 false _ A21.out).mono ?_); rintro e w' ⟨rfl, ⟨nd, rfl⟩⟩))
     go_ret
     exact ⟨by first | rfl | (simp [*, errW_none, errW_some] <;> rfl), by repeat (with_reducible first | exact HB.out | apply yac | apply yab | apply yad | refine yah ?_ (Aside0.out ‹_›))⟩
   ·
    replace c20 := Bool.eq_false_iff.mpr c20
    subst c20
    rw [if_neg (show ¬ (false = true) by decide)] at H
    obtain rfl := Option.some.inj H
    go_enter Tryd.func35, Tryd.ntmps35
    go_wp2_with (first | ((with_reducible refine gd_ 1 rfl ?_); refine bx_ 1 rfl #[.int .i64 a0_0, .int .i64 a0_1, .int .i64 a0_2, .int .i64 a0_3, .int .i64 a0_4] 25 ?_; intro a1 hg w30 hbox hb; have a0 := yaa (hbox); have a2 := yaa ((by rw [hg]; exact (yae (upH HB.out)) : w.heap.size ≤ a1)); replace HB := yaa (yaf (upH HB.out) hb); have a3 := a2; clear hb hbox hg; obtain ⟨k2, k3, k4, k5, k6⟩ := cc5_ a0.out; obtain ⟨k7, k8, k9, l0⟩ := cf4_ a0.out; have l1 := yag a0.out 4) | ((with_reducible refine gc_ 64 rfl ?_); refine gl_ (some 29) rfl Tryd.func64 #[.int .i64 a0_1, .int .i64 1, .int .i64 6] ?_; (with_reducible refine (spec_l1In.calls a0_1 1 6 false _ A19.out).mono ?_); rintro e w' ⟨rfl, ⟨nd, rfl⟩⟩; refine ⟨_, rfl, ?_⟩))
    go_ret
    exact ⟨by first | rfl | (simp [*, errW_none, errW_some] <;> rfl), by repeat (with_reducible first | exact HB.out | apply yac | apply yab | apply yad | refine yah ?_ (Aside0.out ‹_›))⟩
  ·
   rw [if_neg c18] at H
   have b6 := beq_eq_false_iff_ne.mpr c18; have b7 := bne_iff_ne.mpr c18
   by_cases c32 : a0_0 = 8
   ·
    rw [if_pos c32] at H
    have c0 := beq_iff_eq.mpr c32; have c1 := bne_eq_false_iff_eq.mpr c32; clear c32; obtain ⟨b2, A33, H⟩ := bindA H; (try dsimp only at H)
    by_cases c34 : b2 = true
    ·
     subst c34
     rw [if_pos rfl] at H
     obtain ⟨b3, A35, H⟩ := bindA H; (try dsimp only at H)
     by_cases c36 : b3 = true
     ·
      subst c36
      rw [if_pos rfl] at H
      obtain ⟨b4, A37, H⟩ := bindA H; (try dsimp only at H)
      by_cases c38 : b4 = true
      ·
       subst c38
       rw [if_pos rfl] at H
       obtain rfl := Option.some.inj H
       go_enter Tryd.func35, Tryd.ntmps35
       go_wp2_with (first | ((with_reducible refine gd_ 1 rfl ?_); refine bx_ 1 rfl #[.int .i64 a0_0, .int .i64 a0_1, .int .i64 a0_2, .int .i64 a0_3, .int .i64 a0_4] 25 ?_; intro a1 hg w39 hbox hb; have a0 := yaa (hbox); have a2 := yaa ((by rw [hg]; exact (yae (upH HB.out)) : w.heap.size ≤ a1)); replace HB := yaa (yaf (upH HB.out) hb); have a3 := a2; clear hb hbox hg; obtain ⟨l2, l3, l4, l5, l6⟩ := cc5_ a0.out; obtain ⟨l7, l8, l9, m0⟩ := cf4_ a0.out; have m1 := yag a0.out 4) | ((with_reducible refine gc_ 64 rfl ?_); refine gl_ (some 49) rfl Tryd.func64 #[.int .i64 a0_1, .int .i64 0, .int .i64 255] ?_; (with_reducible refine (spec_l1In.calls a0_1 0 255 true _ A33.out).mono ?_); rintro e w' ⟨rfl, ⟨nd, rfl⟩⟩; refine ⟨_, rfl, ?_⟩) | (go_at_call 64; (with_reducible refine (spec_l1In.calls a0_2 0 255 true _ A35.out).mono ?_); rintro e w' ⟨rfl, ⟨nd, rfl⟩⟩) | (go_at_call 64; (with_reducible refine (spec_l1In.calls a0_3 0 255 true _ A37.out).mono ?_); rintro e w' ⟨rfl, ⟨nd, rfl⟩⟩))
       go_ret
       exact ⟨by first | rfl | (simp [*, errW_none, errW_some] <;> rfl), by repeat (with_reducible first | exact HB.out | apply yac | apply yab | apply yad | refine yah ?_ (Aside0.out ‹_›))⟩
      ·
       replace c38 := Bool.eq_false_iff.mpr c38
       subst c38
       rw [if_neg (show ¬ (false = true) by decide)] at H
       obtain rfl := Option.some.inj H
       go_enter Tryd.func35, Tryd.ntmps35
       go_wp2_with (first | ((with_reducible refine gd_ 1 rfl ?_); refine bx_ 1 rfl #[.int .i64 a0_0, .int .i64 a0_1, .int .i64 a0_2, .int .i64 a0_3, .int .i64 a0_4] 25 ?_; intro a1 hg w41 hbox hb; have a0 := yaa (hbox); have a2 := yaa ((by rw [hg]; exact (yae (upH HB.out)) : w.heap.size ≤ a1)); replace HB := yaa (yaf (upH HB.out) hb); have a3 := a2; clear hb hbox hg; obtain ⟨m2, m3, m4, m5, m6⟩ := cc5_ a0.out; obtain ⟨m7, m8, m9, n0⟩ := cf4_ a0.out; have n1 := yag a0.out 4) | ((with_reducible refine gc_ 64 rfl ?_); refine gl_ (some 49) rfl Tryd.func64 #[.int .i64 a0_1, .int .i64 0, .int .i64 255] ?_; (with_reducible refine (spec_l1In.calls a0_1 0 255 true _ A33.out).mono ?_); rintro e w' ⟨rfl, ⟨nd, rfl⟩⟩; refine ⟨_, rfl, ?_⟩) | (go_at_call 64; (with_reducible refine (spec_l1In.calls a0_2 0 255 true _ A35.out).mono ?_); rintro e w' ⟨rfl, ⟨nd, rfl⟩⟩) | (go_at_call 64; (with_reducible refine (spec_l1In.calls a0_3 0 255 false _ A37.out).mono ?_); rintro e w' ⟨rfl, ⟨nd, rfl⟩⟩))
       go_ret
       exact ⟨by first | rfl | (simp [*, errW_none, errW_some] <;> rfl), by repeat (with_reducible first | exact HB.out | apply yac | apply yab | apply yad | refine yah ?_ (Aside0.out ‹_›))⟩
     ·
      replace c36 := Bool.eq_false_iff.mpr c36
      subst c36
      rw [if_neg (show ¬ (false = true) by decide)] at H
      obtain rfl := Option.some.inj H
      go_enter Tryd.func35, Tryd.ntmps35
      go_wp2_with (first | ((with_reducible refine gd_ 1 rfl ?_); refine bx_ 1 rfl #[.int .i64 a0_0, .int .i64 a0_1, .int .i64 a0_2, .int .i64 a0_3, .int .i64 a0_4] 25 ?_; intro a1 hg w43 hbox hb; have a0 := yaa (hbox); have a2 := yaa ((by rw [hg]; exact (yae (upH HB.out)) : w.heap.size ≤ a1)); replace HB := yaa (yaf (upH HB.out) hb); have a3 := a2; clear hb hbox hg; obtain ⟨n2, n3, n4, n5, n6⟩ := cc5_ a0.out; obtain ⟨n7, n8, n9, o0⟩ := cf4_ a0.out; have o1 := yag a0.out 4) | ((with_reducible refine gc_ 64 rfl ?_); refine gl_ (some 49) rfl Tryd.func64 #[.int .i64 a0_1, .int .i64 0, .int .i64 255] ?_; (with_reducible refine (spec_l1In.calls a0_1 0 255 true _ A33.out).mono ?_); rintro e w' ⟨rfl, ⟨nd, rfl⟩⟩; refine ⟨_, rfl, ?_⟩) | (go_at_call 64; (with_reducible refine (spec_l1In.calls a0_2 0 255 false _ A35.out).mono ?_); rintro e w' ⟨rfl, ⟨nd, rfl⟩⟩))
      go_ret
      exact ⟨by first | rfl | (simp [*, errW_none, errW_some] <;> rfl), by repeat (with_reducible first | exact HB.out | apply yac | apply yab | apply yad | refine yah ?_ (Aside0.out ‹_›))⟩
    ·
     replace c34 := Bool.eq_false_iff.mpr c34
     subst c34
     rw [if_neg (show ¬ (false = true) by decide)] at H
     obtain rfl := Option.some.inj H
     go_enter Tryd.func35, Tryd.ntmps35
     go_wp2_with (first | ((with_reducible refine gd_ 1 rfl ?_); refine bx_ 1 rfl #[.int .i64 a0_0, .int .i64 a0_1, .int .i64 a0_2, .int .i64 a0_3, .int .i64 a0_4] 25 ?_; intro a1 hg w45 hbox hb; have a0 := yaa (hbox); have a2 := yaa ((by rw [hg]; exact (yae (upH HB.out)) : w.heap.size ≤ a1)); replace HB := yaa (yaf (upH HB.out) hb); have a3 := a2; clear hb hbox hg; obtain ⟨o2, o3, o4, o5, o6⟩ := cc5_ a0.out; obtain ⟨o7, o8, o9, p0⟩ := cf4_ a0.out; have p1 := yag a0.out 4) | ((with_reducible refine gc_ 64 rfl ?_); refine gl_ (some 49) rfl Tryd.func64 #[.int .i64 a0_1, .int .i64 0, .int .i64 255] ?_; (with_reducible refine (spec_l1In.calls a0_1 0 255 false _ A33.out).mono ?_); rintro e w' ⟨rfl, ⟨nd, rfl⟩⟩; refine ⟨_, rfl, ?_⟩))
     go_ret
     exact ⟨by first | rfl | (simp [*, errW_none, errW_some] <;> rfl), by repeat (with_reducible first | exact HB.out | apply yac | apply yab | apply yad | refine yah ?_ (Aside0.out ‹_›))⟩
   ·
    rw [if_neg c32] at H
    have c0 := beq_eq_false_iff_ne.mpr c32; have c1 := bne_iff_ne.mpr c32; obtain ⟨b5, A47, H⟩ := bindA H; (try dsimp only at H)
    by_cases c48 : b5 = true
    ·
     subst c48
     rw [if_pos rfl] at H
     by_cases c49 : a0_1 = 0
     ·
      rw [if_pos c49] at H
      have c3 := beq_iff_eq.mpr c49; have c5 := bne_eq_false_iff_eq.mpr c49; clear c49
      by_cases c50 : a0_2 = 0
      ·
       rw [if_pos c50] at H
       have c7 := beq_iff_eq.mpr c50; have c9 := bne_eq_false_iff_eq.mpr c50; clear c50
       by_cases c51 : a0_3 = 0
       ·
        rw [if_pos c51] at H
        have d0 := beq_iff_eq.mpr c51; have d1 := bne_eq_false_iff_eq.mpr c51; clear c51; obtain rfl := Option.some.inj H
        go_enter Tryd.func35, Tryd.ntmps35
        go_wp2_with (first | ((with_reducible refine gd_ 1 rfl ?_); refine bx_ 1 rfl #[.int .i64 a0_0, .int .i64 a0_1, .int .i64 a0_2, .int .i64 a0_3, .int .i64 a0_4] 25 ?_; intro a1 hg w52 hbox hb; have a0 := yaa (hbox); have a2 := yaa ((by rw [hg]; exact (yae (upH HB.out)) : w.heap.size ≤ a1)); replace HB := yaa (yaf (upH HB.out) hb); have a3 := a2; clear hb hbox hg; obtain ⟨p2, p3, p4, p5, p6⟩ := cc5_ a0.out; obtain ⟨p7, p8, p9, q0⟩ := cf4_ a0.out; have q1 := yag a0.out 4) | ((with_reducible refine gc_ 64 rfl ?_); refine gl_ (some 67) rfl Tryd.func64 #[.int .i64 a0_0, .int .i64 2, .int .i64 6] ?_; (with_reducible refine (spec_l1In.calls a0_0 2 6 true _ A47.out).mono ?_); rintro e w' ⟨rfl, ⟨nd, rfl⟩⟩; refine ⟨_, rfl, ?_⟩))
        go_ret
        exact ⟨by first | rfl | (simp [*, errW_none, errW_some] <;> rfl), by repeat (with_reducible first | exact HB.out | apply yac | apply yab | apply yad | refine yah ?_ (Aside0.out ‹_›))⟩
       ·
        rw [if_neg c51] at H
        have d0 := beq_eq_false_iff_ne.mpr c51; have d1 := bne_iff_ne.mpr c51; obtain rfl := Option.some.inj H
        go_enter Tryd.func35, Tryd.ntmps35
        go_wp2_with (first | ((with_reducible refine gd_ 1 rfl ?_); refine bx_ 1 rfl #[.int .i64 a0_0, .int .i64 a0_1, .int .i64 a0_2, .int .i64 a0_3, .int .i64 a0_4] 25 ?_; intro a1 hg w54 hbox hb; have a0 := yaa (hbox); have a2 := yaa ((by rw [hg]; exact (yae (upH HB.out)) : w.heap.size ≤ a1)); replace HB := yaa (yaf (upH HB.out) hb); have a3 := a2; clear hb hbox hg; obtain ⟨q2, q3, q4, q5, q6⟩ := cc5_ a0.out; obtain ⟨q7, q8, q9, r0⟩ := cf4_ a0.out; have r1 := yag a0.out 4) | ((with_reducible refine gc_ 64 rfl ?_); refine gl_ (some 67) rfl Tryd.func64 #[.int .i64 a0_0, .int .i64 2, .int .i64 6] ?_; (with_reducible refine (spec_l1In.calls a0_0 2 6 true _ A47.out).mono ?_); rintro e w' ⟨rfl, ⟨nd, rfl⟩⟩; refine ⟨_, rfl, ?_⟩))
        go_ret
        exact ⟨by first | rfl | (simp [*, errW_none, errW_some] <;> rfl), by repeat (with_reducible first | exact HB.out | apply yac | apply yab | apply yad | refine yah ?_ (Aside0.out ‹_›))⟩
      ·
       rw [if_neg c50] at H
       have c7 := beq_eq_false_iff_ne.mpr c50; have c9 := bne_iff_ne.mpr c50; obtain rfl := Option.some.inj H
       go_enter Tryd.func35, Tryd.ntmps35
       go_wp2_with (first | ((with_reducible refine gd_ 1 rfl ?_); refine bx_ 1 rfl #[.int .i64 a0_0, .int .i64 a0_1, .int .i64 a0_2, .int .i64 a0_3, .int .i64 a0_4] 25 ?_; intro a1 hg w56 hbox hb; have a0 := yaa (hbox); have a2 := yaa ((by rw [hg]; exact (yae (upH HB.out)) : w.heap.size ≤ a1)); replace HB := yaa (yaf (upH HB.out) hb); have a3 := a2; clear hb hbox hg; obtain ⟨r2, r3, r4, r5, r6⟩ := cc5_ a0.out; obtain ⟨r7, r8, r9, s0⟩ := cf4_ a0.out; have s1 := yag a0.out 4) | ((with_reducible refine gc_ 64 rfl ?_); refine gl_ (some 67) rfl Tryd.func64 #[.int .i64 a0_0, .int .i64 2, .int .i64 6] ?_; (with_reducible refine (spec_l1In.calls a0_0 2 6 true _ A47.out).mono ?_); rintro e w' ⟨rfl, ⟨nd, rfl⟩⟩; refine ⟨_, rfl, ?_⟩))
       go_ret
       exact ⟨by first | rfl | (simp [*, errW_none, errW_some] <;> rfl), by repeat (with_reducible first | exact HB.out | apply yac | apply yab | apply yad | refine yah ?_ (Aside0.out ‹_›))⟩
     ·
      rw [if_neg c49] at H
      have c3 := beq_eq_false_iff_ne.mpr c49; have c5 := bne_iff_ne.mpr c49; obtain rfl := Option.some.inj H
      go_enter Tryd.func35, Tryd.ntmps35
      go_wp2_with (first | ((with_reducible refine gd_ 1 rfl ?_); refine bx_ 1 rfl #[.int .i64 a0_0, .int .i64 a0_1, .int .i64 a0_2, .int .i64 a0_3, .int .i64 a0_4] 25 ?_; intro a1 hg w58 hbox hb; have a0 := yaa (hbox); have a2 := yaa ((by rw [hg]; exact (yae (upH HB.out)) : w.heap.size ≤ a1)); replace HB := yaa (yaf (upH HB.out) hb); have a3 := a2; clear hb hbox hg; obtain ⟨s2, s3, s4, s5, s6⟩ := cc5_ a0.out; obtain ⟨s7, s8, s9, t0⟩ := cf4_ a0.out; have t1 := yag a0.out 4) | ((with_reducible refine gc_ 64 rfl ?_); refine gl_ (some 67) rfl Tryd.func64 #[.int .i64 a0_0, .int .i64 2, .int .i64 6] ?_; (with_reducible refine (spec_l1In.calls a0_0 2 6 true _ A47.out).mono ?_); rintro e w' ⟨rfl, ⟨nd, rfl⟩⟩; refine ⟨_, rfl, ?_⟩))
      go_ret
      exact ⟨by first | rfl | (simp [*, errW_none, errW_some] <;> rfl), by repeat (with_reducible first | exact HB.out | apply yac | apply yab | apply yad | refine yah ?_ (Aside0.out ‹_›))⟩
    ·
     replace c48 := Bool.eq_false_iff.mpr c48
     subst c48
     rw [if_neg (show ¬ (false = true) by decide)] at H
     obtain rfl := Option.some.inj H
     go_enter Tryd.func35, Tryd.ntmps35
     go_wp2_with (first | ((with_reducible refine gd_ 1 rfl ?_); refine bx_ 1 rfl #[.int .i64 a0_0, .int .i64 a0_1, .int .i64 a0_2, .int .i64 a0_3, .int .i64 a0_4] 25 ?_; intro a1 hg w60 hbox hb; have a0 := yaa (hbox); have a2 := yaa ((by rw [hg]; exact (yae (upH HB.out)) : w.heap.size ≤ a1)); replace HB := yaa (yaf (upH HB.out) hb); have a3 := a2; clear hb hbox hg; obtain ⟨t2, t3, t4, t5, t6⟩ := cc5_ a0.out; obtain ⟨t7, t8, t9, u0⟩ := cf4_ a0.out; have u1 := yag a0.out 4) | ((with_reducible refine gc_ 64 rfl ?_); refine gl_ (some 67) rfl Tryd.func64 #[.int .i64 a0_0, .int .i64 2, .int .i64 6] ?_; (with_reducible refine (spec_l1In.calls a0_0 2 6 false _ A47.out).mono ?_); rintro e w' ⟨rfl, ⟨nd, rfl⟩⟩; refine ⟨_, rfl, ?_⟩))
     go_ret
     exact ⟨by first | rfl | (simp [*, errW_none, errW_some] <;> rfl), by repeat (with_reducible first | exact HB.out | apply yac | apply yab | apply yad | refine yah ?_ (Aside0.out ‹_›))⟩
end
section
def spec_l6All.l0 : Nat → List (S25) → Int → Option (Bool)
 | 0, _, _ => none
 | k + 1, x0, x3 => if x3 < (x0.length : Int) then (if 0 ≤ x3 then ((spec_OpOk.f ((rd_T25 x0 x3).f0) ((rd_T25 x0 x3).f1) ((rd_T25 x0 x3).f2) ((rd_T25 x0 x3).f3) ((rd_T25 x0 x3).f4)).bind fun t102 => (if t102 = true then (spec_l6All.l0 k x0 (wrap64 (x3 + 1))) else (some false))) else (none)) else (some (decide ((x0.length : Int) ≤ 5)))
def spec_l6All.f (k : Nat) (l0 : List (S25)) : Option (Bool) := spec_l6All.l0 k l0 0
set_option maxHeartbeats 8000000 in
set_option maxRecDepth 100000 in
theorem spec_l6All.calls (k : Nat) (A0 : Option Addr) (c0 : Nat) (l0 : List (S25)) (r : Bool) (w : World) (hr0 : Kd.C k25 w A0 l0.length l0) (hc0 : l0.length ≤ c0) (h : spec_l6All.f k l0 = some r) :
  Calls Tryd.prog 62 #[.slice A0 l0.length c0] w fun e w' => e = .returned (.bool r) ∧ Below w.heap.size w w' := by
 have hu25 := Tryd.underlying25; have HR0 := Aside0.mk hr0; have HC0 := Aside0.mk hc0; clear hr0 hc0; have HB := Aside0.mk (Below.refl w.heap.size w); have H : (spec_l6All.l0 k l0 0) = some r := h; clear h; have H' := Aside0.mk H; clear H
 go_enter Tryd.func62, Tryd.ntmps62
 go_wp2
 (try simp only [Act.put, List.setIfInBounds_toArray, List.set_cons_zero, List.set_cons_succ])
 go_loopg [3] k (fun kq v3 w' => ∃ (a1 : Int), v3 = .int .i64 a1 ∧ Aside0 (spec_l6All.l0 kq l0 a1 = some r) ∧ Aside0 (kq ≤ k) ∧ Aside0 (Below w.heap.size w w'))
 case atStart => exact ⟨(0), (by first | rfl | (simp; done) | (simp [*]; done)), H', ⟨Nat.le_refl _⟩, ⟨upH HB.out⟩⟩
 case round =>
  clear H'; obtain ⟨a1, rfl, HA, HK1, HB⟩ := hrel
  cases gk with
  | zero => exact absurd HA.out (by simp [spec_l6All.l0])
  | succ k1 =>
   have H := HA.out; clear HA
   simp only [spec_l6All.l0] at H
   by_cases c2 : a1 < (l0.length : Int)
   ·
    rw [if_pos c2] at H
    have a8 : decide (a1 < (l0.length : Int)) = true := decide_eq_true c2; clear c2
    by_cases c3 : 0 ≤ a1
    ·
     rw [if_pos c3] at H
     replace c3 := decide_eq_true c3; obtain ⟨a9, A4, H⟩ := bindA H; (try dsimp only at H)
     by_cases c5 : a9 = true
     ·
      subst c5
      rw [if_pos rfl] at H
      have H' := Aside0.mk H; clear H; have p101 : 0 ≤ (a1 : Int) := of_decide_eq_true (by assumption); have q101 : a1 < (l0.length : Int) := of_decide_eq_true (by assumption); obtain ⟨ad101, a7, a2, a3, a4, a5, a6⟩ := at_T25 HR0.out a1 p101 q101
      cases a7
      replace a2 := (upc_ HB.out a2 :); replace a3 := (upc_ HB.out a3 :); replace a4 := (upc_ HB.out a4 :); replace a5 := (upc_ HB.out a5 :); replace a6 := (upc_ HB.out a6 :); replace p101 := eq_true p101; replace q101 := eq_true q101
      go_wp2_with (first | ((with_reducible refine gc_ 35 rfl ?_); refine gl_ (some 14) rfl Tryd.func35 #[.agg #[.int .i64 ((rd_T25 l0 a1).f0), .int .i64 ((rd_T25 l0 a1).f1), .int .i64 ((rd_T25 l0 a1).f2), .int .i64 ((rd_T25 l0 a1).f3), .int .i64 ((rd_T25 l0 a1).f4)]] ?_; (with_reducible refine (spec_OpOk.calls ((rd_T25 l0 a1).f0) ((rd_T25 l0 a1).f1) ((rd_T25 l0 a1).f2) ((rd_T25 l0 a1).f3) ((rd_T25 l0 a1).f4) true _ A4.out).mono ?_); rintro e w6 ⟨rfl, hb⟩; refine ⟨_, rfl, ?_⟩; replace HB := Aside0.mk (below_step (upH HB.out) hb); (try clear hb)))
      go_roundg k1
      case measure => have := HK1.out; omega
      case rel => exact ⟨(wrap64 (a1 + 1)), (by first | rfl | (simp; done) | (simp [*]; done)), H', ⟨by have := HK1.out; omega⟩, ⟨upH HB.out⟩⟩
     ·
      replace c5 := Bool.eq_false_iff.mpr c5
      subst c5
      rw [if_neg (show ¬ (false = true) by decide)] at H
      obtain rfl := Option.some.inj H; have p101 : 0 ≤ (a1 : Int) := of_decide_eq_true (by assumption); have q101 : a1 < (l0.length : Int) := of_decide_eq_true (by assumption); obtain ⟨ad101, a7, a2, a3, a4, a5, a6⟩ := at_T25 HR0.out a1 p101 q101
      cases a7
      replace a2 := (upc_ HB.out a2 :); replace a3 := (upc_ HB.out a3 :); replace a4 := (upc_ HB.out a4 :); replace a5 := (upc_ HB.out a5 :); replace a6 := (upc_ HB.out a6 :); replace p101 := eq_true p101; replace q101 := eq_true q101
      go_wp2_with (first | ((with_reducible refine gc_ 35 rfl ?_); refine gl_ (some 14) rfl Tryd.func35 #[.agg #[.int .i64 ((rd_T25 l0 a1).f0), .int .i64 ((rd_T25 l0 a1).f1), .int .i64 ((rd_T25 l0 a1).f2), .int .i64 ((rd_T25 l0 a1).f3), .int .i64 ((rd_T25 l0 a1).f4)]] ?_; (with_reducible refine (spec_OpOk.calls ((rd_T25 l0 a1).f0) ((rd_T25 l0 a1).f1) ((rd_T25 l0 a1).f2) ((rd_T25 l0 a1).f3) ((rd_T25 l0 a1).f4) false _ A4.out).mono ?_); rintro e w7 ⟨rfl, hb⟩; refine ⟨_, rfl, ?_⟩; replace HB := Aside0.mk (below_step (upH HB.out) hb); (try clear hb)))
      go_ret
      exact ⟨by first | rfl | (simp [*, errW_none, errW_some] <;> rfl), upH HB.out⟩
    ·
     rw [if_neg c3] at H
     exact absurd H (by simp)
   ·
    rw [if_neg c2] at H
    have a8 : decide (a1 < (l0.length : Int)) = false := decide_eq_false c2; clear c2; obtain rfl := Option.some.inj H
    go_wp2
    go_ret
    exact ⟨by first | rfl | (simp [*, errW_none, errW_some] <;> rfl), upH HB.out⟩
end
section
mutual
def spec_l7Path.j0 : Nat → ByteArray → Bool → Option (Bool)
 | 0, _, _ => none
 | k + 1, x0, x11 => if x11 = true then (some false) else (spec_l7Path.l0 k x0 0)
def spec_l7Path.l0 : Nat → ByteArray → Int → Option (Bool)
 | 0, _, _ => none
 | k + 1, x0, x3 => if x3 < (x0.size : Int) then (if 0 ≤ x3 then (if (bt x0 x3) < 97 then (if (bt x0 x3) < 48 then (some false) else (if (bt x0 x3) > 57 then (some false) else (spec_l7Path.l0 k x0 (wrap64 (x3 + 1))))) else (if (bt x0 x3) > 122 then (if (bt x0 x3) < 48 then (some false) else (if (bt x0 x3) > 57 then (some false) else (spec_l7Path.l0 k x0 (wrap64 (x3 + 1))))) else (spec_l7Path.l0 k x0 (wrap64 (x3 + 1))))) else (none)) else (some true)
end
def spec_l7Path.f (k : Nat) (a0 : ByteArray) : Option (Bool) := if (a0.size : Int) = 0 then (spec_l7Path.j0 k a0 true) else (spec_l7Path.j0 k a0 (decide ((a0.size : Int) > 6)))
set_option maxHeartbeats 8000000 in
set_option maxRecDepth 100000 in
theorem spec_l7Path.calls (k : Nat) (a0 : ByteArray) (r : Bool) (w : World) (h : spec_l7Path.f k a0 = some r) :
  Calls Tryd.prog 63 #[.string a0] w fun e w' => e = .returned (.bool r) ∧ Drawn0 w w' := by
 have H : (if (a0.size : Int) = 0 then (spec_l7Path.j0 k a0 true) else (spec_l7Path.j0 k a0 (decide ((a0.size : Int) > 6)))) = some r := h; clear h; have HC2 := Aside0.mk H; clear H
 go_enter Tryd.func63, Tryd.ntmps63
 go_upto_region 1 with (fail)
 go_cut [11] (fun v11 wc => ∃ (kq : Nat) (a3 : Bool), v11 = .bool a3 ∧ Aside0 (spec_l7Path.j0 kq a0 a3 = some r) ∧ Aside0 (kq ≤ k) ∧ Drawn0 w wc)
 case first =>
  have H := HC2.out; clear HC2
  by_cases c3 : (a0.size : Int) = 0
  ·
   rw [if_pos c3] at H
   have a2 := beq_iff_eq.mpr c3; have a4 := bne_eq_false_iff_eq.mpr c3; clear c3
   (first | rw [a2] | (simp only [i64_w, i32_w]; rw [a2]) | skip)
   have H' := Aside0.mk H; clear H
   go_wp2
   go_meet
   case rel => exact ⟨_, (true), (by first | rfl | (simp; done) | (simp [*]; done)), H', ⟨by first | omega | exact Nat.le_refl _⟩, by repeat (first | exact Drawn0.refl _ | apply Drawn0.step)⟩
  ·
   rw [if_neg c3] at H
   have a2 := beq_eq_false_iff_ne.mpr c3; have a4 := bne_iff_ne.mpr c3
   (first | rw [a2] | (simp only [i64_w, i32_w]; rw [a2]) | skip)
   have H' := Aside0.mk H; clear H
   go_wp2
   go_meet
   case rel => exact ⟨_, (decide ((a0.size : Int) > 6)), (by first | rfl | (simp; done) | (simp [*]; done)), H', ⟨by first | omega | exact Nat.le_refl _⟩, by repeat (first | exact Drawn0.refl _ | apply Drawn0.step)⟩
 case rest =>
  clear HC2; (try clear p2); (try clear c3); (try clear a2); (try clear a4); obtain ⟨kq, a3, rfl, HA, HJ1, ⟨mc1, rfl⟩⟩ := hcut
  cases kq with
  | zero => exact absurd HA.out (by simp [spec_l7Path.j0])
  | succ kj1 =>
   have H := HA.out; clear HA
   simp only [spec_l7Path.j0] at H
   by_cases c4 : a3 = true
   ·
    subst c4
    rw [if_pos rfl] at H
    obtain rfl := Option.some.inj H
    go_wp2
    go_ret
    exact ⟨by first | rfl | (simp; done) | (simp [*]; done), by repeat (first | exact Drawn0.refl _ | apply Drawn0.step)⟩
   ·
    replace c4 := Bool.eq_false_iff.mpr c4
    subst c4
    rw [if_neg (show ¬ (false = true) by decide)] at H
    have H' := Aside0.mk H; clear H
    go_wp2
    (try simp only [Act.put, List.setIfInBounds_toArray, List.set_cons_zero, List.set_cons_succ])
    go_loopg [3] kj1 (fun kq v3 w' => ∃ (a1 : Int), v3 = .int .i64 a1 ∧ Aside0 (spec_l7Path.l0 kq a0 a1 = some r) ∧ Aside0 (kq ≤ kj1) ∧ Drawn0 w w')
    case atStart => exact ⟨(0), (by first | rfl | (simp; done) | (simp [*]; done)), H', ⟨Nat.le_refl _⟩, by repeat (first | exact Drawn0.refl _ | apply Drawn0.step)⟩
    case round =>
     clear H'; (try clear c1); (try clear p2); (try clear c3); (try clear a2); (try clear a4); (try clear c4); (try clear p2); obtain ⟨a1, rfl, HA, HK2, ⟨m2, rfl⟩⟩ := hrel
     cases gk with
     | zero => exact absurd HA.out (by simp [spec_l7Path.l0])
     | succ k2 =>
      have H := HA.out; clear HA
      simp only [spec_l7Path.l0] at H
      by_cases c5 : a1 < (a0.size : Int)
      ·
       rw [if_pos c5] at H
       have b2 : decide (a1 < (a0.size : Int)) = true := decide_eq_true c5; clear c5
       by_cases c6 : 0 ≤ a1
       ·
        rw [if_pos c6] at H
        replace c6 := decide_eq_true c6
        by_cases c8 : (bt a0 a1) < 97
        ·
         rw [if_pos c8] at H
         have b3 : decide ((bt a0 a1) < 97) = true := decide_eq_true c8; clear c8
         by_cases c10 : (bt a0 a1) < 48
         ·
          rw [if_pos c10] at H
          have a6 : decide ((bt a0 a1) < 48) = true := decide_eq_true c10; clear c10; obtain rfl := Option.some.inj H; have p7 : 0 ≤ (a1 : Int) := of_decide_eq_true (by assumption); have q7 : a1 < (a0.size : Int) := of_decide_eq_true (by assumption); have hx7 := bt_at a0 a1; replace p7 := eq_true p7; replace q7 := eq_true q7; have p9 : 0 ≤ (a1 : Int) := of_decide_eq_true (by assumption); have q9 : a1 < (a0.size : Int) := of_decide_eq_true (by assumption); have hx9 := bt_at a0 a1; replace p9 := eq_true p9; replace q9 := eq_true q9
          go_wp2
          go_ret
          exact ⟨by first | rfl | (simp; done) | (simp [*]; done), by repeat (first | exact Drawn0.refl _ | apply Drawn0.step)⟩
         ·
          rw [if_neg c10] at H
          have a6 : decide ((bt a0 a1) < 48) = false := decide_eq_false c10; clear c10
          by_cases c12 : (bt a0 a1) > 57
          ·
           rw [if_pos c12] at H
           have a7 : decide (57 < (bt a0 a1)) = true := decide_eq_true c12; clear c12; obtain rfl := Option.some.inj H; have p7 : 0 ≤ (a1 : Int) := of_decide_eq_true (by assumption); have q7 : a1 < (a0.size : Int) := of_decide_eq_true (by assumption); have hx7 := bt_at a0 a1; replace p7 := eq_true p7; replace q7 := eq_true q7; have p9 : 0 ≤ (a1 : Int) := of_decide_eq_true (by assumption); have q9 : a1 < (a0.size : Int) := of_decide_eq_true (by assumption); have hx9 := bt_at a0 a1; replace p9 := eq_true p9; replace q9 := eq_true q9; have p11 : 0 ≤ (a1 : Int) := of_decide_eq_true (by assumption); have q11 : a1 < (a0.size : Int) := of_decide_eq_true (by assumption); have b4 := bt_at a0 a1; replace p11 := eq_true p11; replace q11 := eq_true q11
           go_wp2
           go_ret
           exact ⟨by first | rfl | (simp; done) | (simp [*]; done), by repeat (first | exact Drawn0.refl _ | apply Drawn0.step)⟩
          ·
           rw [if_neg c12] at H
           have a7 : decide (57 < (bt a0 a1)) = false := decide_eq_false c12; clear c12; have H' := Aside0.mk H; clear H; have p7 : 0 ≤ (a1 : Int) := of_decide_eq_true (by assumption); have q7 : a1 < (a0.size : Int) := of_decide_eq_true (by assumption); have hx7 := bt_at a0 a1; replace p7 := eq_true p7; replace q7 := eq_true q7; have p9 : 0 ≤ (a1 : Int) := of_decide_eq_true (by assumption); have q9 : a1 < (a0.size : Int) := of_decide_eq_true (by assumption); have hx9 := bt_at a0 a1; replace p9 := eq_true p9; replace q9 := eq_true q9; have p11 : 0 ≤ (a1 : Int) := of_decide_eq_true (by assumption); have q11 : a1 < (a0.size : Int) := of_decide_eq_true (by assumption); have b4 := bt_at a0 a1; replace p11 := eq_true p11; replace q11 := eq_true q11
           go_wp2
           go_roundg k2
           case measure => have := HJ1.out; have := HK2.out; omega
           case rel => exact ⟨(wrap64 (a1 + 1)), (by first | rfl | (simp; done) | (simp [*]; done)), H', ⟨by have := HJ1.out; have := HK2.out; omega⟩, by repeat (first | exact Drawn0.refl _ | apply Drawn0.step)⟩
        ·
         rw [if_neg c8] at H
         have b3 : decide ((bt a0 a1) < 97) = false := decide_eq_false c8; clear c8
         by_cases c14 : (bt a0 a1) > 122
         ·
          rw [if_pos c14] at H
          have a8 : decide (122 < (bt a0 a1)) = true := decide_eq_true c14; clear c14
          by_cases c16 : (bt a0 a1) < 48
          ·
           rw [if_pos c16] at H
           have a9 : decide ((bt a0 a1) < 48) = true := decide_eq_true c16; clear c16; obtain rfl := Option.some.inj H; have p7 : 0 ≤ (a1 : Int) := of_decide_eq_true (by assumption); have q7 : a1 < (a0.size : Int) := of_decide_eq_true (by assumption); have hx7 := bt_at a0 a1; replace p7 := eq_true p7; replace q7 := eq_true q7; have p13 : 0 ≤ (a1 : Int) := of_decide_eq_true (by assumption); have q13 : a1 < (a0.size : Int) := of_decide_eq_true (by assumption); have a5 := bt_at a0 a1; replace p13 := eq_true p13; replace q13 := eq_true q13; have p15 : 0 ≤ (a1 : Int) := of_decide_eq_true (by assumption); have q15 : a1 < (a0.size : Int) := of_decide_eq_true (by assumption); have b0 := bt_at a0 a1; replace p15 := eq_true p15; replace q15 := eq_true q15
           go_wp2
           go_ret
           exact ⟨by first | rfl | (simp; done) | (simp [*]; done), by repeat (first | exact Drawn0.refl _ | apply Drawn0.step)⟩
          ·
           rw [if_neg c16] at H
           have a9 : decide ((bt a0 a1) < 48) = false := decide_eq_false c16; clear c16
           by_cases c18 : (bt a0 a1) > 57
           ·
            rw [if_pos c18] at H
            have b1 : decide (57 < (bt a0 a1)) = true := decide_eq_true c18; clear c18; obtain rfl := Option.some.inj H; have p7 : 0 ≤ (a1 : Int) := of_decide_eq_true (by assumption); have q7 : a1 < (a0.size : Int) := of_decide_eq_true (by assumption); have hx7 := bt_at a0 a1; replace p7 := eq_true p7; replace q7 := eq_true q7; have p13 : 0 ≤ (a1 : Int) := of_decide_eq_true (by assumption); have q13 : a1 < (a0.size : Int) := of_decide_eq_true (by assumption); have a5 := bt_at a0 a1; replace p13 := eq_true p13; replace q13 := eq_true q13; have p15 : 0 ≤ (a1 : Int) := of_decide_eq_true (by assumption); have q15 : a1 < (a0.size : Int) := of_decide_eq_true (by assumption); have b0 := bt_at a0 a1; replace p15 := eq_true p15; replace q15 := eq_true q15; have p17 : 0 ≤ (a1 : Int) := of_decide_eq_true (by assumption); have q17 : a1 < (a0.size : Int) := of_decide_eq_true (by assumption); have b5 := bt_at a0 a1; replace p17 := eq_true p17; replace q17 := eq_true q17
            go_wp2
            go_ret
            exact ⟨by first | rfl | (simp; done) | (simp [*]; done), by repeat (first | exact Drawn0.refl _ | apply Drawn0.step)⟩
           ·
            rw [if_neg c18] at H
            have b1 : decide (57 < (bt a0 a1)) = false := decide_eq_false c18; clear c18; have H' := Aside0.mk H; clear H; have p7 : 0 ≤ (a1 : Int) := of_decide_eq_true (by assumption); have q7 : a1 < (a0.size : Int) := of_decide_eq_true (by assumption); have hx7 := bt_at a0 a1; replace p7 := eq_true p7; replace q7 := eq_true q7; have p13 : 0 ≤ (a1 : Int) := of_decide_eq_true (by assumption); have q13 : a1 < (a0.size : Int) := of_decide_eq_true (by assumption); have a5 := bt_at a0 a1; replace p13 := eq_true p13; replace q13 := eq_true q13; have p15 : 0 ≤ (a1 : Int) := of_decide_eq_true (by assumption); have q15 : a1 < (a0.size : Int) := of_decide_eq_true (by assumption); have b0 := bt_at a0 a1; replace p15 := eq_true p15; replace q15 := eq_true q15; have p17 : 0 ≤ (a1 : Int) := of_decide_eq_true (by assumption); have q17 : a1 < (a0.size : Int) := of_decide_eq_true (by assumption); have b5 := bt_at a0 a1; replace p17 := eq_true p17; replace q17 := eq_true q17
            go_wp2
            go_roundg k2
            case measure => have := HJ1.out; have := HK2.out; omega
            case rel => exact ⟨(wrap64 (a1 + 1)), (by first | rfl | (simp; done) | (simp [*]; done)), H', ⟨by have := HJ1.out; have := HK2.out; omega⟩, by repeat (first | exact Drawn0.refl _ | apply Drawn0.step)⟩
         ·
          rw [if_neg c14] at H
          have a8 : decide (122 < (bt a0 a1)) = false := decide_eq_false c14; clear c14; have H' := Aside0.mk H; clear H; have p7 : 0 ≤ (a1 : Int) := of_decide_eq_true (by assumption); have q7 : a1 < (a0.size : Int) := of_decide_eq_true (by assumption); have hx7 := bt_at a0 a1; replace p7 := eq_true p7; replace q7 := eq_true q7; have p13 : 0 ≤ (a1 : Int) := of_decide_eq_true (by assumption); have q13 : a1 < (a0.size : Int) := of_decide_eq_true (by assumption); have a5 := bt_at a0 a1; replace p13 := eq_true p13; replace q13 := eq_true q13
          go_wp2
          go_roundg k2
          case measure => have := HJ1.out; have := HK2.out; omega
          case rel => exact ⟨(wrap64 (a1 + 1)), (by first | rfl | (simp; done) | (simp [*]; done)), H', ⟨by have := HJ1.out; have := HK2.out; omega⟩, by repeat (first | exact Drawn0.refl _ | apply Drawn0.step)⟩
       ·
        rw [if_neg c6] at H
        exact absurd H (by simp)
      ·
       rw [if_neg c5] at H
       have b2 : decide (a1 < (a0.size : Int)) = false := decide_eq_false c5; clear c5; obtain rfl := Option.some.inj H
       go_wp2
       go_ret
       exact ⟨by first | rfl | (simp; done) | (simp [*]; done), by repeat (first | exact Drawn0.refl _ | apply Drawn0.step)⟩
end
section
open Go.Proofs.YtiihhjfdgojkeaaDoorW.PrintWords.Aside0 renaming mk → yaa

def spec_AskOk.f (k : Nat) (l0_0 : List (S25)) (a0_1 : ByteArray) (a0_2 : Int) : Option (Bool) := (spec_l6All.f k l0_0).bind fun t102 => (if t102 = true then ((spec_l7Path.f k a0_1).bind fun t103 => (if t103 = true then ((spec_l1In.f a0_2 0 9999).bind fun t104 => (some t104)) else (some false))) else (some false))
set_option maxHeartbeats 8000000 in
set_option maxRecDepth 100000 in
theorem spec_AskOk.calls (k : Nat) (A0_0 : Option Addr) (c0_0 : Nat) (l0_0 : List (S25)) (a0_1 : ByteArray) (a0_2 : Int) (r : Bool) (w : World) (hr0_0 : Kd.C k25 w A0_0 l0_0.length l0_0) (hc0_0 : l0_0.length ≤ c0_0) (h : spec_AskOk.f k l0_0 a0_1 a0_2 = some r) :
  Calls Tryd.prog 22 #[.agg #[.slice A0_0 l0_0.length c0_0, .string a0_1, .int .i64 a0_2]] w fun e w' => e = .returned (.bool r) ∧ Below w.heap.size w w' := by
 have hu35 := Tryd.underlying35; have HR0_0 := yaa hr0_0; have HC0_0 := yaa hc0_0; clear hr0_0 hc0_0; have HB := yaa (Below.refl w.heap.size w); have H : ((spec_l6All.f k l0_0).bind fun a9 => (if a9 = true then ((spec_l7Path.f k a0_1).bind fun b0 => (if b0 = true then ((spec_l1In.f a0_2 0 9999).bind fun b1 => (some b1)) else (some false))) else (some false))) = some r := h; clear h; obtain ⟨a9, A2, H⟩ := bindA H; (try dsimp only at H)
 by_cases c3 : a9 = true
 ·
  subst c3
  rw [if_pos rfl] at H
  obtain ⟨b0, A4, H⟩ := bindA H; (try dsimp only at H)
  by_cases c5 : b0 = true
  ·
   subst c5
   rw [if_pos rfl] at H
   obtain ⟨b1, A6, H⟩ := bindA H; (try dsimp only at H); obtain rfl := Option.some.inj H
   go_enter Tryd.func22, Tryd.ntmps22
   go_wp2_with (first | ((with_reducible refine gd_ 1 rfl ?_); refine bx_ 1 rfl #[.slice A0_0 l0_0.length c0_0, .string a0_1, .int .i64 a0_2] 35 ?_; intro a4 hg w7 hbox hb; have a3 := yaa (hbox); have a5 := yaa ((by rw [hg]; exact (below_size (upH HB.out)) : w.heap.size ≤ a4)); replace HB := yaa (below_step (upH HB.out) hb); have a8 := a5; clear hb hbox hg; obtain ⟨d8, d9, e0⟩ := cc3_ a3.out; obtain ⟨e1, e2⟩ := cf2_ a3.out; have e3 := blk_frozen a3.out 2) | ((with_reducible refine gc_ 62 rfl ?_); refine gl_ (some 5) rfl Tryd.func62 #[.slice A0_0 l0_0.length c0_0] ?_; (with_reducible refine (spec_l6All.calls k _ _ l0_0 true _ ?side1 ?side2 A2.out).mono ?_); (case side1 => repeat (first | exact (Kd.C_below HR0_0.out HB.out) | (with_reducible refine Kd.C_alloc ?_ _) | (with_reducible refine Kd.C_drewN ?_ _) | (with_reducible refine Kd.C_drew ?_))); (case side2 => exact HC0_0.out); rintro e w9 ⟨rfl, hb⟩; refine ⟨_, rfl, ?_⟩; replace a3 := yaa (blk_below (upB a3.out) hb); replace HB := yaa (below_step (by repeat (with_reducible first | exact HB.out | apply below_alloc | apply pw_below_drewN | apply below_drew1 | refine below_set ?_ (Aside0.out ‹_›))) hb); (try clear hb); obtain ⟨b2, b3, b4⟩ := cc3_ a3.out; obtain ⟨b5, b6⟩ := cf2_ a3.out; have b7 := blk_frozen a3.out 2) | (go_at_call 63; (with_reducible refine (spec_l7Path.calls k a0_1 true _ A4.out).mono ?_); rintro e w' ⟨rfl, ⟨nd, rfl⟩⟩) | (go_at_call 64; (with_reducible refine (spec_l1In.calls a0_2 0 9999 b1 _ A6.out).mono ?_); rintro e w' ⟨rfl, ⟨nd, rfl⟩⟩))
   go_ret
   exact ⟨by first | rfl | (simp [*, errW_none, errW_some] <;> rfl), by repeat (with_reducible first | exact HB.out | apply below_alloc | apply pw_below_drewN | apply below_drew1 | refine below_set ?_ (Aside0.out ‹_›))⟩
  ·
   replace c5 := Bool.eq_false_iff.mpr c5
   subst c5
   rw [if_neg (show ¬ (false = true) by decide)] at H
   obtain rfl := Option.some.inj H
   go_enter Tryd.func22, Tryd.ntmps22
   go_wp2_with (first | ((with_reducible refine gd_ 1 rfl ?_); refine bx_ 1 rfl #[.slice A0_0 l0_0.length c0_0, .string a0_1, .int .i64 a0_2] 35 ?_; intro a4 hg w11 hbox hb; have a3 := yaa (hbox); have a5 := yaa ((by rw [hg]; exact (below_size (upH HB.out)) : w.heap.size ≤ a4)); replace HB := yaa (below_step (upH HB.out) hb); have a8 := a5; clear hb hbox hg; obtain ⟨b8, b9, c0⟩ := cc3_ a3.out; obtain ⟨c1, c2⟩ := cf2_ a3.out; have c4 := blk_frozen a3.out 2) | ((with_reducible refine gc_ 62 rfl ?_); refine gl_ (some 5) rfl Tryd.func62 #[.slice A0_0 l0_0.length c0_0] ?_; (with_reducible refine (spec_l6All.calls k _ _ l0_0 true _ ?side1 ?side2 A2.out).mono ?_); (case side1 => repeat (first | exact (Kd.C_below HR0_0.out HB.out) | (with_reducible refine Kd.C_alloc ?_ _) | (with_reducible refine Kd.C_drewN ?_ _) | (with_reducible refine Kd.C_drew ?_))); (case side2 => exact HC0_0.out); rintro e w13 ⟨rfl, hb⟩; refine ⟨_, rfl, ?_⟩; replace a3 := yaa (blk_below (upB a3.out) hb); replace HB := yaa (below_step (by repeat (with_reducible first | exact HB.out | apply below_alloc | apply pw_below_drewN | apply below_drew1 | refine below_set ?_ (Aside0.out ‹_›))) hb); (try clear hb); obtain ⟨c6, c7, c8⟩ := cc3_ a3.out; obtain ⟨c9, d0⟩ := cf2_ a3.out; have d1 := blk_frozen a3.out 2) | (go_at_call 63; (with_reducible refine (spec_l7Path.calls k a0_1 false _ A4.out).mono ?_); rintro e w' ⟨rfl, ⟨nd, rfl⟩⟩))
   go_ret
   exact ⟨by first | rfl | (simp [*, errW_none, errW_some] <;> rfl), by repeat (with_reducible first | exact HB.out | apply below_alloc | apply pw_below_drewN | apply below_drew1 | refine below_set ?_ (Aside0.out ‹_›))⟩
 ·
  replace c3 := Bool.eq_false_iff.mpr c3
  subst c3
  rw [if_neg (show ¬ (false = true) by decide)] at H
  obtain rfl := Option.some.inj H
  go_enter Tryd.func22, Tryd.ntmps22
  go_wp2_with (first | ((with_reducible refine gd_ 1 rfl ?_); refine bx_ 1 rfl #[.slice A0_0 l0_0.length c0_0, .string a0_1, .int .i64 a0_2] 35 ?_; intro a4 hg w15 hbox hb; have a3 := yaa (hbox); have a5 := yaa ((by rw [hg]; exact (below_size (upH HB.out)) : w.heap.size ≤ a4)); replace HB := yaa (below_step (upH HB.out) hb); have a8 := a5; clear hb hbox hg; obtain ⟨d2, d3, d4⟩ := cc3_ a3.out; obtain ⟨d5, d6⟩ := cf2_ a3.out; have d7 := blk_frozen a3.out 2) | ((with_reducible refine gc_ 62 rfl ?_); refine gl_ (some 5) rfl Tryd.func62 #[.slice A0_0 l0_0.length c0_0] ?_; (with_reducible refine (spec_l6All.calls k _ _ l0_0 false _ ?side1 ?side2 A2.out).mono ?_); (case side1 => repeat (first | exact (Kd.C_below HR0_0.out HB.out) | (with_reducible refine Kd.C_alloc ?_ _) | (with_reducible refine Kd.C_drewN ?_ _) | (with_reducible refine Kd.C_drew ?_))); (case side2 => exact HC0_0.out); rintro e w17 ⟨rfl, hb⟩; refine ⟨_, rfl, ?_⟩; replace a3 := yaa (blk_below (upB a3.out) hb); replace HB := yaa (below_step (by repeat (with_reducible first | exact HB.out | apply below_alloc | apply pw_below_drewN | apply below_drew1 | refine below_set ?_ (Aside0.out ‹_›))) hb); (try clear hb)))
  go_ret
  exact ⟨by first | rfl | (simp [*, errW_none, errW_some] <;> rfl), by repeat (with_reducible first | exact HB.out | apply below_alloc | apply pw_below_drewN | apply below_drew1 | refine below_set ?_ (Aside0.out ‹_›))⟩
end
section
def spec_l7Plain.l0 : Nat → Int → ByteArray → Option (ByteArray)
 | 0, _, _ => none
 | k + 1, x0, x3 => if x0 > 9 then ((some (([(wrap64 (48 + (Int.tmod x0 10))) % 256] : List Int) : List Int)).bind fun y101 => (if (strOfNums y101).size + x3.size ≤ 9223372036854775807 then (spec_l7Plain.l0 k (wrap64 (Int.tdiv x0 10)) ((strOfNums y101) ++ x3)) else (none))) else ((some (([(wrap64 (48 + x0)) % 256] : List Int) : List Int)).bind fun y104 => (if (strOfNums y104).size + x3.size ≤ 9223372036854775807 then (some ((strOfNums y104) ++ x3)) else (none)))
def spec_l7Plain.f (k : Nat) (a0 : Int) : Option (ByteArray) := spec_l7Plain.l0 k a0 (⟨#[]⟩ : ByteArray)
set_option maxHeartbeats 8000000 in
set_option maxRecDepth 100000 in
theorem spec_l7Plain.calls (k : Nat) (a0 : Int) (r : ByteArray) (w : World) (h : spec_l7Plain.f k a0 = some r) :
  Calls Tryd.prog 52 #[.int .i64 a0] w fun e w' => e = .returned (.string r) ∧ Below w.heap.size w w' := by
 have HB := Aside0.mk (Below.refl w.heap.size w); have H : (spec_l7Plain.l0 k a0 (⟨#[]⟩ : ByteArray)) = some r := h; clear h; have H' := Aside0.mk H; clear H
 go_enter Tryd.func52, Tryd.ntmps52
 go_wp2
 (try simp only [Act.put, List.setIfInBounds_toArray, List.set_cons_zero, List.set_cons_succ])
 go_loopg [0, 3] k (fun kq v0 v3 w' => ∃ (a1 : Int) (a2 : ByteArray), v0 = .int .i64 a1 ∧ v3 = .string a2 ∧ Aside0 (spec_l7Plain.l0 kq a1 a2 = some r) ∧ Aside0 (kq ≤ k) ∧ Aside0 (Below w.heap.size w w'))
 case atStart => exact ⟨(a0), ((⟨#[]⟩ : ByteArray)), (by first | rfl | (simp; done) | (simp [*]; done)), (by first | rfl | (simp; done) | (simp [*]; done)), H', ⟨Nat.le_refl _⟩, ⟨upH HB.out⟩⟩
 case round =>
  clear H'; obtain ⟨a1, a2, rfl, rfl, HA, HK1, HB⟩ := hrel
  cases gk with
  | zero => exact absurd HA.out (by simp [spec_l7Plain.l0])
  | succ k1 =>
   have H := HA.out; clear HA
   simp only [spec_l7Plain.l0] at H
   by_cases c2 : a1 > 9
   ·
    rw [if_pos c2] at H
    have a5 : decide (9 < a1) = true := decide_eq_true c2; clear c2; obtain ⟨y101, hy101⟩ : ∃ y_ : List Int, y_ = (([(wrap64 (48 + (Int.tmod a1 10))) % 256] : List Int)) := ⟨_, rfl⟩
    replace H : (if (strOfNums y101).size + a2.size ≤ 9223372036854775807 then (spec_l7Plain.l0 k1 (wrap64 (Int.tdiv a1 10)) ((strOfNums y101) ++ a2)) else (none)) = some r := by first | (rw [hy101]; with_reducible exact H) | (have H2_ := (Option.bind_some _ _).symm.trans H; rw [hy101]; with_reducible exact H2_) | (have H2_ := (Option.bind_some _ _).symm.trans H; with_reducible exact H2_) | with_reducible exact H | (rw [hy101]; exact H) | exact H
    have Ny101 := Aside0.mk hy101; clear hy101
    by_cases c3 : (strOfNums y101).size + a2.size ≤ 9223372036854775807
    ·
     rw [if_pos c3] at H
     have a6 := eq_true c3; have a7 : decide ((strOfNums y101).size + a2.size ≤ 9223372036854775807) = true := decide_eq_true c3
     try have a8 : (9223372036854775807 < (strOfNums y101).size + a2.size) = False := eq_false (Nat.not_lt.2 c3)
     have H' := Aside0.mk H; clear H
     go_wp2_with (first | ((with_reducible refine gd_ 10 rfl ?_); refine Kd.R_lit (Kd.int .u8) _ 5 ?hg (N := 10) ?hd (xs := ([(wrap64 (48 + (Int.tmod a1 10))) % 256] : List Int)) (inner := [.int .u8 ((wrap64 (48 + (Int.tmod a1 10))) % 256)]) (ok := fun _ => True) (okp := fun _ => True) ?hr ?hp (fun _ hk => hk) trivial (Below.refl _ _) (Nat.le_refl _) (by simp) ?_; (case hd => rfl); (case hg => rfl); (case hr => first | (go_simp; done) | (go_simp; rfl)); (case hp => exact (Reps.one (show Kd.M (Kd.int .u8) _ _ _ ((wrap64 (48 + (Int.tmod a1 10))) % 256) [.int .u8 ((wrap64 (48 + (Int.tmod a1 10))) % 256)] from rfl) (Reps.none _ _))); intro a9 w4 ho5 hb hg_ hnew_; clear hg_ hnew_; (first | rw [← Ny101.out] at ho5 | (simp only [Int.reduceToNat] at ho5; rw [← Ny101.out] at ho5)); have a3 := Aside0.mk (Kd.R_lower ho5 (below_size (upH HB.out))); replace HB := Aside0.mk (below_step (upH HB.out) hb); clear hb ho5; have hcv6 := own_string (P := Tryd.prog) Tryd.underlying39 Tryd.underlying5 Tryd.underlying9 (Kd.own_of_R a3.out)))
     go_roundg k1
     case measure => have := HK1.out; omega
     case rel => exact ⟨(wrap64 (Int.tdiv a1 10)), ((strOfNums y101) ++ a2), (by first | rfl | (simp; done) | (simp [*]; done)), (by first | rfl | (simp; done) | (simp [*]; done)), H', ⟨by have := HK1.out; omega⟩, ⟨upH HB.out⟩⟩
    ·
     rw [if_neg c3] at H
     exact absurd H (by simp)
   ·
    rw [if_neg c2] at H
    have a5 : decide (9 < a1) = false := decide_eq_false c2; clear c2; obtain ⟨y104, hy104⟩ : ∃ y_ : List Int, y_ = (([(wrap64 (48 + a1)) % 256] : List Int)) := ⟨_, rfl⟩
    replace H : (if (strOfNums y104).size + a2.size ≤ 9223372036854775807 then (some ((strOfNums y104) ++ a2)) else (none)) = some r := by first | (rw [hy104]; with_reducible exact H) | (have H2_ := (Option.bind_some _ _).symm.trans H; rw [hy104]; with_reducible exact H2_) | (have H2_ := (Option.bind_some _ _).symm.trans H; with_reducible exact H2_) | with_reducible exact H | (rw [hy104]; exact H) | exact H
    have Ny104 := Aside0.mk hy104; clear hy104
    by_cases c7 : (strOfNums y104).size + a2.size ≤ 9223372036854775807
    ·
     rw [if_pos c7] at H
     have b0 := eq_true c7; have b1 : decide ((strOfNums y104).size + a2.size ≤ 9223372036854775807) = true := decide_eq_true c7
     try have b2 : (9223372036854775807 < (strOfNums y104).size + a2.size) = False := eq_false (Nat.not_lt.2 c7)
     obtain rfl := Option.some.inj H
     go_wp2_with (first | ((with_reducible refine gd_ 19 rfl ?_); refine Kd.R_lit (Kd.int .u8) _ 5 ?hg (N := 19) ?hd (xs := ([(wrap64 (48 + a1)) % 256] : List Int)) (inner := [.int .u8 ((wrap64 (48 + a1)) % 256)]) (ok := fun _ => True) (okp := fun _ => True) ?hr ?hp (fun _ hk => hk) trivial (Below.refl _ _) (Nat.le_refl _) (by simp) ?_; (case hd => rfl); (case hg => rfl); (case hr => first | (go_simp; done) | (go_simp; rfl)); (case hp => exact (Reps.one (show Kd.M (Kd.int .u8) _ _ _ ((wrap64 (48 + a1)) % 256) [.int .u8 ((wrap64 (48 + a1)) % 256)] from rfl) (Reps.none _ _))); intro b3 w8 ho9 hb hg_ hnew_; clear hg_ hnew_; (first | rw [← Ny104.out] at ho9 | (simp only [Int.reduceToNat] at ho9; rw [← Ny104.out] at ho9)); have a4 := Aside0.mk (Kd.R_lower ho9 (below_size (upH HB.out))); replace HB := Aside0.mk (below_step (upH HB.out) hb); clear hb ho9; have hcv10 := own_string (P := Tryd.prog) Tryd.underlying39 Tryd.underlying5 Tryd.underlying9 (Kd.own_of_R a4.out)))
     go_ret
     exact ⟨by first | rfl | (simp [*, errW_none, errW_some] <;> rfl), upH HB.out⟩
    ·
     rw [if_neg c7] at H
     exact absurd H (by simp)
end
section
open Go.Proofs.YtiihhjfdgojkeaaDoorW.PrintWords.Reps renaming one → yaa
open Go.Proofs.YtiihhjfdgojkeaaDoorW.PrintWords.Kd renaming string → yab
open Go.Proofs.YtiihhjfdgojkeaaDoorW.PrintWords.Aside0 renaming mk → yac

def spec_l7Word.f (a0 : Int) : Option (ByteArray × Int) := (some (([(⟨#[]⟩ : ByteArray), (⟨#[99, 114, 111, 112]⟩ : ByteArray), (⟨#[102, 108, 105, 112, 120]⟩ : ByteArray), (⟨#[102, 108, 105, 112, 121]⟩ : ByteArray), (⟨#[116, 117, 114, 110]⟩ : ByteArray), (⟨#[103, 114, 97, 121]⟩ : ByteArray), (⟨#[98, 108, 117, 114]⟩ : ByteArray), (⟨#[115, 105, 122, 101]⟩ : ByteArray), (⟨#[102, 108, 97, 116]⟩ : ByteArray)] : List ByteArray) : List ByteArray)).bind fun y101 => ((some (([0, 4, 0, 0, 0, 0, 0, 2, 3] : List Int) : List Int)).bind fun y104 => (if 0 ≤ a0 then (if a0 < (y101.length : Int) then (if a0 < (y104.length : Int) then (some (rdOf ByteArray.empty y101 a0, rd y104 a0)) else (none)) else (none)) else (none)))
set_option maxHeartbeats 8000000 in
set_option maxRecDepth 100000 in
theorem spec_l7Word.calls (a0 : Int) (r1 : ByteArray) (r2 : Int) (w : World) (h : spec_l7Word.f a0 = some (r1, r2)) :
  Calls Tryd.prog 51 #[.int .i64 a0] w fun e w' => e = .returned (.tuple #[.string r1, .int .i64 r2]) ∧ Below w.heap.size w w' := by
 have HB := yac (Below.refl w.heap.size w); have H : ((some (([(⟨#[]⟩ : ByteArray), (⟨#[99, 114, 111, 112]⟩ : ByteArray), (⟨#[102, 108, 105, 112, 120]⟩ : ByteArray), (⟨#[102, 108, 105, 112, 121]⟩ : ByteArray), (⟨#[116, 117, 114, 110]⟩ : ByteArray), (⟨#[103, 114, 97, 121]⟩ : ByteArray), (⟨#[98, 108, 117, 114]⟩ : ByteArray), (⟨#[115, 105, 122, 101]⟩ : ByteArray), (⟨#[102, 108, 97, 116]⟩ : ByteArray)] : List ByteArray) : List ByteArray)).bind fun y101 => ((some (([0, 4, 0, 0, 0, 0, 0, 2, 3] : List Int) : List Int)).bind fun y104 => (if 0 ≤ a0 then (if a0 < (y101.length : Int) then (if a0 < (y104.length : Int) then (some (rdOf ByteArray.empty y101 a0, rd y104 a0)) else (none)) else (none)) else (none)))) = some (r1, r2) := h; clear h; obtain ⟨y101, hy101, H⟩ := bindY H; (try dsimp only at H); have Ny101 := yac hy101; clear hy101; obtain ⟨y104, hy104, H⟩ := bindY H; (try dsimp only at H); have Ny104 := yac hy104; clear hy104
 by_cases c2 : 0 ≤ a0
 ·
  rw [if_pos c2] at H
  replace c2 := decide_eq_true c2
  by_cases c3 : a0 < (y101.length : Int)
  ·
   rw [if_pos c3] at H
   replace c3 := decide_eq_true c3
   by_cases c4 : a0 < (y104.length : Int)
   ·
    rw [if_pos c4] at H
    replace c4 := decide_eq_true c4
    simp only [Option.some.injEq, Prod.mk.injEq] at H
    obtain ⟨rfl, rfl⟩ := H
    go_enter Tryd.func51, Tryd.ntmps51
    go_wp2_with (first | ((with_reducible refine gd_ 6 rfl ?_); refine Kd.R_lit yab _ 9 ?hg (N := 6) ?hd (xs := ([(⟨#[]⟩ : ByteArray), (⟨#[99, 114, 111, 112]⟩ : ByteArray), (⟨#[102, 108, 105, 112, 120]⟩ : ByteArray), (⟨#[102, 108, 105, 112, 121]⟩ : ByteArray), (⟨#[116, 117, 114, 110]⟩ : ByteArray), (⟨#[103, 114, 97, 121]⟩ : ByteArray), (⟨#[98, 108, 117, 114]⟩ : ByteArray), (⟨#[115, 105, 122, 101]⟩ : ByteArray), (⟨#[102, 108, 97, 116]⟩ : ByteArray)] : List ByteArray)) (inner := [.string (⟨#[]⟩ : ByteArray), .string (⟨#[99, 114, 111, 112]⟩ : ByteArray), .string (⟨#[102, 108, 105, 112, 120]⟩ : ByteArray), .string (⟨#[102, 108, 105, 112, 121]⟩ : ByteArray), .string (⟨#[116, 117, 114, 110]⟩ : ByteArray), .string (⟨#[103, 114, 97, 121]⟩ : ByteArray), .string (⟨#[98, 108, 117, 114]⟩ : ByteArray), .string (⟨#[115, 105, 122, 101]⟩ : ByteArray), .string (⟨#[102, 108, 97, 116]⟩ : ByteArray)]) (ok := fun _ => True) (okp := fun _ => True) ?hr ?hp (fun _ hk => hk) trivial (Below.refl _ _) (Nat.le_refl _) (by simp) ?_; (case hd => rfl); (case hg => rfl); (case hr => first | (go_simp; done) | (go_simp; rfl)); (case hp => exact (yaa (show Kd.M yab _ _ _ (⟨#[]⟩ : ByteArray) [.string (⟨#[]⟩ : ByteArray)] from rfl) (yaa (show Kd.M yab _ _ _ (⟨#[99, 114, 111, 112]⟩ : ByteArray) [.string (⟨#[99, 114, 111, 112]⟩ : ByteArray)] from rfl) (yaa (show Kd.M yab _ _ _ (⟨#[102, 108, 105, 112, 120]⟩ : ByteArray) [.string (⟨#[102, 108, 105, 112, 120]⟩ : ByteArray)] from rfl) (yaa (show Kd.M yab _ _ _ (⟨#[102, 108, 105, 112, 121]⟩ : ByteArray) [.string (⟨#[102, 108, 105, 112, 121]⟩ : ByteArray)] from rfl) (yaa (show Kd.M yab _ _ _ (⟨#[116, 117, 114, 110]⟩ : ByteArray) [.string (⟨#[116, 117, 114, 110]⟩ : ByteArray)] from rfl) (yaa (show Kd.M yab _ _ _ (⟨#[103, 114, 97, 121]⟩ : ByteArray) [.string (⟨#[103, 114, 97, 121]⟩ : ByteArray)] from rfl) (yaa (show Kd.M yab _ _ _ (⟨#[98, 108, 117, 114]⟩ : ByteArray) [.string (⟨#[98, 108, 117, 114]⟩ : ByteArray)] from rfl) (yaa (show Kd.M yab _ _ _ (⟨#[115, 105, 122, 101]⟩ : ByteArray) [.string (⟨#[115, 105, 122, 101]⟩ : ByteArray)] from rfl) (yaa (show Kd.M yab _ _ _ (⟨#[102, 108, 97, 116]⟩ : ByteArray) [.string (⟨#[102, 108, 97, 116]⟩ : ByteArray)] from rfl) (Reps.none _ _))))))))))); intro a8 w5 ho6 hb hg_ hnew_; clear hg_ hnew_; (first | rw [← Ny101.out] at ho6 | (simp only [Int.reduceToNat] at ho6; rw [← Ny101.out] at ho6)); have a1 := yac (Kd.R_lower ho6 (below_size (upH HB.out))); replace HB := yac (below_step (upH HB.out) hb); clear hb ho6) | ((with_reducible refine gd_ 7 rfl ?_); refine Kd.R_lit (Kd.int .i64) _ 3 ?hg (N := 7) ?hd (xs := ([0, 4, 0, 0, 0, 0, 0, 2, 3] : List Int)) (inner := [.int .i64 0, .int .i64 4, .int .i64 0, .int .i64 0, .int .i64 0, .int .i64 0, .int .i64 0, .int .i64 2, .int .i64 3]) (ok := fun _ => True) (okp := fun _ => True) ?hr ?hp (fun _ hk => hk) trivial (Below.refl _ _) (Nat.le_refl _) (by simp) ?_; (case hd => rfl); (case hg => rfl); (case hr => first | (go_simp; done) | (go_simp; rfl)); (case hp => exact (yaa (show Kd.M (Kd.int .i64) _ _ _ 0 [.int .i64 0] from rfl) (yaa (show Kd.M (Kd.int .i64) _ _ _ 4 [.int .i64 4] from rfl) (yaa (show Kd.M (Kd.int .i64) _ _ _ 0 [.int .i64 0] from rfl) (yaa (show Kd.M (Kd.int .i64) _ _ _ 0 [.int .i64 0] from rfl) (yaa (show Kd.M (Kd.int .i64) _ _ _ 0 [.int .i64 0] from rfl) (yaa (show Kd.M (Kd.int .i64) _ _ _ 0 [.int .i64 0] from rfl) (yaa (show Kd.M (Kd.int .i64) _ _ _ 0 [.int .i64 0] from rfl) (yaa (show Kd.M (Kd.int .i64) _ _ _ 2 [.int .i64 2] from rfl) (yaa (show Kd.M (Kd.int .i64) _ _ _ 3 [.int .i64 3] from rfl) (Reps.none _ _))))))))))); intro a9 w7 ho8 hb hg_ hnew_; clear hg_ hnew_; (first | rw [← Ny104.out] at ho8 | (simp only [Int.reduceToNat] at ho8; rw [← Ny104.out] at ho8)); replace a1 := yac (Kd.R_below (upR a1.out) hb); have a2 := yac (Kd.R_lower ho8 (below_size (upH HB.out))); replace HB := yac (below_step (upH HB.out) hb); clear hb ho8; obtain ⟨Ao9, co9, eo9⟩ := Kd.R_slice a1.out; subst eo9; have p107 : 0 ≤ (a0 : Int) := of_decide_eq_true (by assumption); have q107 : a0 < (y101.length : Int) := of_decide_eq_true (by assumption); obtain ⟨ad107, a5, a3⟩ := Kd.at_string (Kd.R_reads' a1.out).2.2 a0 p107 q107; cases a5; replace p107 := eq_true p107; replace q107 := eq_true q107; obtain ⟨b0, b1, a6⟩ := Kd.R_slice a2.out; subst a6; have p108 : 0 ≤ (a0 : Int) := of_decide_eq_true (by assumption); have q108 : a0 < (y104.length : Int) := of_decide_eq_true (by assumption); obtain ⟨ad108, a7, a4⟩ := Kd.at_int (Kd.R_reads' a2.out).2.2 a0 p108 q108; cases a7; replace p108 := eq_true p108; replace q108 := eq_true q108))
    repeat (go_quiet (first | ((with_reducible refine gd_ 6 rfl ?_); refine Kd.R_lit yab _ 9 ?hg (N := 6) ?hd (xs := ([(⟨#[]⟩ : ByteArray), (⟨#[99, 114, 111, 112]⟩ : ByteArray), (⟨#[102, 108, 105, 112, 120]⟩ : ByteArray), (⟨#[102, 108, 105, 112, 121]⟩ : ByteArray), (⟨#[116, 117, 114, 110]⟩ : ByteArray), (⟨#[103, 114, 97, 121]⟩ : ByteArray), (⟨#[98, 108, 117, 114]⟩ : ByteArray), (⟨#[115, 105, 122, 101]⟩ : ByteArray), (⟨#[102, 108, 97, 116]⟩ : ByteArray)] : List ByteArray)) (inner := [.string (⟨#[]⟩ : ByteArray), .string (⟨#[99, 114, 111, 112]⟩ : ByteArray), .string (⟨#[102, 108, 105, 112, 120]⟩ : ByteArray), .string (⟨#[102, 108, 105, 112, 121]⟩ : ByteArray), .string (⟨#[116, 117, 114, 110]⟩ : ByteArray), .string (⟨#[103, 114, 97, 121]⟩ : ByteArray), .string (⟨#[98, 108, 117, 114]⟩ : ByteArray), .string (⟨#[115, 105, 122, 101]⟩ : ByteArray), .string (⟨#[102, 108, 97, 116]⟩ : ByteArray)]) (ok := fun _ => True) (okp := fun _ => True) ?hr ?hp (fun _ hk => hk) trivial (Below.refl _ _) (Nat.le_refl _) (by simp) ?_; (case hd => rfl); (case hg => rfl); (case hr => first | (go_simp; done) | (go_simp; rfl)); (case hp => exact (yaa (show Kd.M yab _ _ _ (⟨#[]⟩ : ByteArray) [.string (⟨#[]⟩ : ByteArray)] from rfl) (yaa (show Kd.M yab _ _ _ (⟨#[99, 114, 111, 112]⟩ : ByteArray) [.string (⟨#[99, 114, 111, 112]⟩ : ByteArray)] from rfl) (yaa (show Kd.M yab _ _ _ (⟨#[102, 108, 105, 112, 120]⟩ : ByteArray) [.string (⟨#[102, 108, 105, 112, 120]⟩ : ByteArray)] from rfl) (yaa (show Kd.M yab _ _ _ (⟨#[102, 108, 105, 112, 121]⟩ : ByteArray) [.string (⟨#[102, 108, 105, 112, 121]⟩ : ByteArray)] from rfl) (yaa (show Kd.M yab _ _ _ (⟨#[116, 117, 114, 110]⟩ : ByteArray) [.string (⟨#[116, 117, 114, 110]⟩ : ByteArray)] from rfl) (yaa (show Kd.M yab _ _ _ (⟨#[103, 114, 97, 121]⟩ : ByteArray) [.string (⟨#[103, 114, 97, 121]⟩ : ByteArray)] from rfl) (yaa (show Kd.M yab _ _ _ (⟨#[98, 108, 117, 114]⟩ : ByteArray) [.string (⟨#[98, 108, 117, 114]⟩ : ByteArray)] from rfl) (yaa (show Kd.M yab _ _ _ (⟨#[115, 105, 122, 101]⟩ : ByteArray) [.string (⟨#[115, 105, 122, 101]⟩ : ByteArray)] from rfl) (yaa (show Kd.M yab _ _ _ (⟨#[102, 108, 97, 116]⟩ : ByteArray) [.string (⟨#[102, 108, 97, 116]⟩ : ByteArray)] from rfl) (Reps.none _ _))))))))))); intro a8 w5 ho6 hb hg_ hnew_; clear hg_ hnew_; (first | rw [← Ny101.out] at ho6 | (simp only [Int.reduceToNat] at ho6; rw [← Ny101.out] at ho6)); have a1 := yac (Kd.R_lower ho6 (below_size (upH HB.out))); replace HB := yac (below_step (upH HB.out) hb); clear hb ho6) | ((with_reducible refine gd_ 7 rfl ?_); refine Kd.R_lit (Kd.int .i64) _ 3 ?hg (N := 7) ?hd (xs := ([0, 4, 0, 0, 0, 0, 0, 2, 3] : List Int)) (inner := [.int .i64 0, .int .i64 4, .int .i64 0, .int .i64 0, .int .i64 0, .int .i64 0, .int .i64 0, .int .i64 2, .int .i64 3]) (ok := fun _ => True) (okp := fun _ => True) ?hr ?hp (fun _ hk => hk) trivial (Below.refl _ _) (Nat.le_refl _) (by simp) ?_; (case hd => rfl); (case hg => rfl); (case hr => first | (go_simp; done) | (go_simp; rfl)); (case hp => exact (yaa (show Kd.M (Kd.int .i64) _ _ _ 0 [.int .i64 0] from rfl) (yaa (show Kd.M (Kd.int .i64) _ _ _ 4 [.int .i64 4] from rfl) (yaa (show Kd.M (Kd.int .i64) _ _ _ 0 [.int .i64 0] from rfl) (yaa (show Kd.M (Kd.int .i64) _ _ _ 0 [.int .i64 0] from rfl) (yaa (show Kd.M (Kd.int .i64) _ _ _ 0 [.int .i64 0] from rfl) (yaa (show Kd.M (Kd.int .i64) _ _ _ 0 [.int .i64 0] from rfl) (yaa (show Kd.M (Kd.int .i64) _ _ _ 0 [.int .i64 0] from rfl) (yaa (show Kd.M (Kd.int .i64) _ _ _ 2 [.int .i64 2] from rfl) (yaa (show Kd.M (Kd.int .i64) _ _ _ 3 [.int .i64 3] from rfl) (Reps.none _ _))))))))))); intro a9 w7 ho8 hb hg_ hnew_; clear hg_ hnew_; (first | rw [← Ny104.out] at ho8 | (simp only [Int.reduceToNat] at ho8; rw [← Ny104.out] at ho8)); replace a1 := yac (Kd.R_below (upR a1.out) hb); have a2 := yac (Kd.R_lower ho8 (below_size (upH HB.out))); replace HB := yac (below_step (upH HB.out) hb); clear hb ho8; obtain ⟨Ao9, co9, eo9⟩ := Kd.R_slice a1.out; subst eo9; have p107 : 0 ≤ (a0 : Int) := of_decide_eq_true (by assumption); have q107 : a0 < (y101.length : Int) := of_decide_eq_true (by assumption); obtain ⟨ad107, a5, a3⟩ := Kd.at_string (Kd.R_reads' a1.out).2.2 a0 p107 q107; cases a5; replace p107 := eq_true p107; replace q107 := eq_true q107; obtain ⟨b0, b1, a6⟩ := Kd.R_slice a2.out; subst a6; have p108 : 0 ≤ (a0 : Int) := of_decide_eq_true (by assumption); have q108 : a0 < (y104.length : Int) := of_decide_eq_true (by assumption); obtain ⟨ad108, a7, a4⟩ := Kd.at_int (Kd.R_reads' a2.out).2.2 a0 p108 q108; cases a7; replace p108 := eq_true p108; replace q108 := eq_true q108)); try go_wp2_with (first | ((with_reducible refine gd_ 6 rfl ?_); refine Kd.R_lit yab _ 9 ?hg (N := 6) ?hd (xs := ([(⟨#[]⟩ : ByteArray), (⟨#[99, 114, 111, 112]⟩ : ByteArray), (⟨#[102, 108, 105, 112, 120]⟩ : ByteArray), (⟨#[102, 108, 105, 112, 121]⟩ : ByteArray), (⟨#[116, 117, 114, 110]⟩ : ByteArray), (⟨#[103, 114, 97, 121]⟩ : ByteArray), (⟨#[98, 108, 117, 114]⟩ : ByteArray), (⟨#[115, 105, 122, 101]⟩ : ByteArray), (⟨#[102, 108, 97, 116]⟩ : ByteArray)] : List ByteArray)) (inner := [.string (⟨#[]⟩ : ByteArray), .string (⟨#[99, 114, 111, 112]⟩ : ByteArray), .string (⟨#[102, 108, 105, 112, 120]⟩ : ByteArray), .string (⟨#[102, 108, 105, 112, 121]⟩ : ByteArray), .string (⟨#[116, 117, 114, 110]⟩ : ByteArray), .string (⟨#[103, 114, 97, 121]⟩ : ByteArray), .string (⟨#[98, 108, 117, 114]⟩ : ByteArray), .string (⟨#[115, 105, 122, 101]⟩ : ByteArray), .string (⟨#[102, 108, 97, 116]⟩ : ByteArray)]) (ok := fun _ => True) (okp := fun _ => True) ?hr ?hp (fun _ hk => hk) trivial (Below.refl _ _) (Nat.le_refl _) (by simp) ?_; (case hd => rfl); (case hg => rfl); (case hr => first | (go_simp; done) | (go_simp; rfl)); (case hp => exact (yaa (show Kd.M yab _ _ _ (⟨#[]⟩ : ByteArray) [.string (⟨#[]⟩ : ByteArray)] from rfl) (yaa (show Kd.M yab _ _ _ (⟨#[99, 114, 111, 112]⟩ : ByteArray) [.string (⟨#[99, 114, 111, 112]⟩ : ByteArray)] from rfl) (yaa (show Kd.M yab _ _ _ (⟨#[102, 108, 105, 112, 120]⟩ : ByteArray) [.string (⟨#[102, 108, 105, 112, 120]⟩ : ByteArray)] from rfl) (yaa (show Kd.M yab _ _ _ (⟨#[102, 108, 105, 112, 121]⟩ : ByteArray) [.string (⟨#[102, 108, 105, 112, 121]⟩ : ByteArray)] from rfl) (yaa (show Kd.M yab _ _ _ (⟨#[116, 117, 114, 110]⟩ : ByteArray) [.string (⟨#[116, 117, 114, 110]⟩ : ByteArray)] from rfl) (yaa (show Kd.M yab _ _ _ (⟨#[103, 114, 97, 121]⟩ : ByteArray) [.string (⟨#[103, 114, 97, 121]⟩ : ByteArray)] from rfl) (yaa (show Kd.M yab _ _ _ (⟨#[98, 108, 117, 114]⟩ : ByteArray) [.string (⟨#[98, 108, 117, 114]⟩ : ByteArray)] from rfl) (yaa (show Kd.M yab _ _ _ (⟨#[115, 105, 122, 101]⟩ : ByteArray) [.string (⟨#[115, 105, 122, 101]⟩ : ByteArray)] from rfl) (yaa (show Kd.M yab _ _ _ (⟨#[102, 108, 97, 116]⟩ : ByteArray) [.string (⟨#[102, 108, 97, 116]⟩ : ByteArray)] from rfl) (Reps.none _ _))))))))))); intro a8 w5 ho6 hb hg_ hnew_; clear hg_ hnew_; (first | rw [← Ny101.out] at ho6 | (simp only [Int.reduceToNat] at ho6; rw [← Ny101.out] at ho6)); have a1 := yac (Kd.R_lower ho6 (below_size (upH HB.out))); replace HB := yac (below_step (upH HB.out) hb); clear hb ho6) | ((with_reducible refine gd_ 7 rfl ?_); refine Kd.R_lit (Kd.int .i64) _ 3 ?hg (N := 7) ?hd (xs := ([0, 4, 0, 0, 0, 0, 0, 2, 3] : List Int)) (inner := [.int .i64 0, .int .i64 4, .int .i64 0, .int .i64 0, .int .i64 0, .int .i64 0, .int .i64 0, .int .i64 2, .int .i64 3]) (ok := fun _ => True) (okp := fun _ => True) ?hr ?hp (fun _ hk => hk) trivial (Below.refl _ _) (Nat.le_refl _) (by simp) ?_; (case hd => rfl); (case hg => rfl); (case hr => first | (go_simp; done) | (go_simp; rfl)); (case hp => exact (yaa (show Kd.M (Kd.int .i64) _ _ _ 0 [.int .i64 0] from rfl) (yaa (show Kd.M (Kd.int .i64) _ _ _ 4 [.int .i64 4] from rfl) (yaa (show Kd.M (Kd.int .i64) _ _ _ 0 [.int .i64 0] from rfl) (yaa (show Kd.M (Kd.int .i64) _ _ _ 0 [.int .i64 0] from rfl) (yaa (show Kd.M (Kd.int .i64) _ _ _ 0 [.int .i64 0] from rfl) (yaa (show Kd.M (Kd.int .i64) _ _ _ 0 [.int .i64 0] from rfl) (yaa (show Kd.M (Kd.int .i64) _ _ _ 0 [.int .i64 0] from rfl) (yaa (show Kd.M (Kd.int .i64) _ _ _ 2 [.int .i64 2] from rfl) (yaa (show Kd.M (Kd.int .i64) _ _ _ 3 [.int .i64 3] from rfl) (Reps.none _ _))))))))))); intro a9 w7 ho8 hb hg_ hnew_; clear hg_ hnew_; (first | rw [← Ny104.out] at ho8 | (simp only [Int.reduceToNat] at ho8; rw [← Ny104.out] at ho8)); replace a1 := yac (Kd.R_below (upR a1.out) hb); have a2 := yac (Kd.R_lower ho8 (below_size (upH HB.out))); replace HB := yac (below_step (upH HB.out) hb); clear hb ho8; obtain ⟨Ao9, co9, eo9⟩ := Kd.R_slice a1.out; subst eo9; have p107 : 0 ≤ (a0 : Int) := of_decide_eq_true (by assumption); have q107 : a0 < (y101.length : Int) := of_decide_eq_true (by assumption); obtain ⟨ad107, a5, a3⟩ := Kd.at_string (Kd.R_reads' a1.out).2.2 a0 p107 q107; cases a5; replace p107 := eq_true p107; replace q107 := eq_true q107; obtain ⟨b0, b1, a6⟩ := Kd.R_slice a2.out; subst a6; have p108 : 0 ≤ (a0 : Int) := of_decide_eq_true (by assumption); have q108 : a0 < (y104.length : Int) := of_decide_eq_true (by assumption); obtain ⟨ad108, a7, a4⟩ := Kd.at_int (Kd.R_reads' a2.out).2.2 a0 p108 q108; cases a7; replace p108 := eq_true p108; replace q108 := eq_true q108)))
    go_ret2
    exact ⟨by first | rfl | (simp [*, errW_none, errW_some] <;> rfl), upH HB.out⟩
   ·
    rw [if_neg c4] at H
    exact absurd H (by simp)
  ·
   rw [if_neg c3] at H
   exact absurd H (by simp)
 ·
  rw [if_neg c2] at H
  exact absurd H (by simp)
end
section
open Go.Proofs.YtiihhjfdgojkeaaDoorW.PrintWords.Aside0 renaming mk → yaa
open Go.Proofs.YtiihhjfdgojkeaaDoorW.PrintWords renaming pw_below_drewN → yab

def spec_OpText.l0 : Nat → ByteArray → Int → List Int → Int → Option (ByteArray)
 | 0, _, _, _, _ => none
 | k + 1, x3, x4, x5, x6 => if x6 < x4 then (if x3.size + 1 ≤ 9223372036854775807 then (if 0 ≤ x6 then (if x6 < (x5.length : Int) then ((spec_l7Plain.f k (rd x5 x6)).bind fun t109 => (if (x3 ++ (⟨#[46]⟩ : ByteArray)).size + t109.size ≤ 9223372036854775807 then (spec_OpText.l0 k ((x3 ++ (⟨#[46]⟩ : ByteArray)) ++ t109) x4 x5 (wrap64 (x6 + 1))) else (none))) else (none)) else (none)) else (none)) else (some x3)
def spec_OpText.f (k : Nat) (a0_0 : Int) (a0_1 : Int) (a0_2 : Int) (a0_3 : Int) (a0_4 : Int) : Option (ByteArray) := (spec_OpOk.f a0_0 a0_1 a0_2 a0_3 a0_4).bind fun t102 => (if t102 = true then ((spec_l7Word.f a0_0).bind fun bt103 => (spec_OpText.l0 k bt103.1 bt103.2 (([a0_1, a0_2, a0_3, a0_4] : List Int)) 0)) else (some (⟨#[]⟩ : ByteArray)))
set_option maxHeartbeats 8000000 in
set_option maxRecDepth 100000 in
theorem spec_OpText.calls (k : Nat) (a0_0 : Int) (a0_1 : Int) (a0_2 : Int) (a0_3 : Int) (a0_4 : Int) (r : ByteArray) (w : World) (h : spec_OpText.f k a0_0 a0_1 a0_2 a0_3 a0_4 = some r) :
  Calls Tryd.prog 13 #[.agg #[.int .i64 a0_0, .int .i64 a0_1, .int .i64 a0_2, .int .i64 a0_3, .int .i64 a0_4]] w fun e w' => e = .returned (.string r) ∧ Below w.heap.size w w' := by
 have hu25 := Tryd.underlying25; have HB := yaa (Below.refl w.heap.size w); have H : ((spec_OpOk.f a0_0 a0_1 a0_2 a0_3 a0_4).bind fun d0 => (if d0 = true then ((spec_l7Word.f a0_0).bind fun c8 => (spec_OpText.l0 k c8.1 c8.2 (([a0_1, a0_2, a0_3, a0_4] : List Int)) 0)) else (some (⟨#[]⟩ : ByteArray)))) = some r := h; clear h; obtain ⟨d0, A2, H⟩ := bindA H; (try dsimp only at H)
 by_cases c3 : d0 = true
 ·
  subst c3
  rw [if_pos rfl] at H
  obtain ⟨⟨d1, a9⟩, A4, H⟩ := bindA H; (try dsimp only at H); obtain ⟨y105, hy105⟩ : ∃ y_ : List Int, y_ = (([a0_1, a0_2, a0_3, a0_4] : List Int)) := ⟨_, rfl⟩
  replace H : (spec_OpText.l0 k d1 a9 y105 0) = some r := by first | (rw [hy105]; with_reducible exact H) | (have H2_ := (Option.bind_some _ _).symm.trans H; rw [hy105]; with_reducible exact H2_) | (have H2_ := (Option.bind_some _ _).symm.trans H; with_reducible exact H2_) | with_reducible exact H | (rw [hy105]; exact H) | exact H
  have Ny105 := yaa hy105; clear hy105; have H' := yaa H; clear H
  go_enter Tryd.func13, Tryd.ntmps13
  go_wp2_with (first | ((with_reducible refine gd_ 1 rfl ?_); refine bx_ 1 rfl #[.int .i64 a0_0, .int .i64 a0_1, .int .i64 a0_2, .int .i64 a0_3, .int .i64 a0_4] 25 ?_; intro a8 hg w5 hbox hb; have a5 := yaa (hbox); have b1 := yaa ((by rw [hg]; exact (below_size (upH HB.out)) : w.heap.size ≤ a8)); replace HB := yaa (below_step (upH HB.out) hb); have f4 := b1; clear hb hbox hg; obtain ⟨d2, d3, d4, d5, d6⟩ := cc5_ a5.out; obtain ⟨d8, d9, e0, e1⟩ := cf4_ a5.out; have e3 := blk_frozen a5.out 4) | ((with_reducible refine gc_ 35 rfl ?_); refine gl_ (some 8) rfl Tryd.func35 #[.agg #[.int .i64 a0_0, .int .i64 a0_1, .int .i64 a0_2, .int .i64 a0_3, .int .i64 a0_4]] ?_; (with_reducible refine (spec_OpOk.calls a0_0 a0_1 a0_2 a0_3 a0_4 true _ A2.out).mono ?_); rintro e w7 ⟨rfl, hb⟩; refine ⟨_, rfl, ?_⟩; replace a5 := yaa (blk_below (upB a5.out) hb); replace HB := yaa (below_step (by repeat (with_reducible first | exact HB.out | apply below_alloc | apply yab | apply below_drew1 | refine below_set ?_ (Aside0.out ‹_›))) hb); (try clear hb); obtain ⟨e4, e5, e6, e7, e8⟩ := cc5_ a5.out; obtain ⟨e9, f0, f1, f2⟩ := cf4_ a5.out; have f3 := blk_frozen a5.out 4) | ((with_reducible refine gc_ 51 rfl ?_); refine gl_ (some 13) rfl Tryd.func51 #[.int .i64 a0_0] ?_; (with_reducible refine (spec_l7Word.calls a0_0 d1 a9 _ A4.out).mono ?_); rintro e w9 ⟨rfl, hb⟩; refine ⟨_, rfl, ?_⟩; replace a5 := yaa (blk_below (upB a5.out) hb); replace HB := yaa (below_step (by repeat (with_reducible first | exact HB.out | apply below_alloc | apply yab | apply below_drew1 | refine below_set ?_ (Aside0.out ‹_›))) hb); (try clear hb); obtain ⟨b5, b6, b7, b8, b9⟩ := cc5_ a5.out; obtain ⟨c0, c2, c4, c6⟩ := cf4_ a5.out; have c7 := blk_frozen a5.out 4) | ((with_reducible refine gd_ 24 rfl ?_); refine Kd.R_lit (Kd.int .i64) _ 3 ?hg (N := 24) ?hd (xs := ([a0_1, a0_2, a0_3, a0_4] : List Int)) (inner := [.int .i64 a0_1, .int .i64 a0_2, .int .i64 a0_3, .int .i64 a0_4]) (ok := fun _ => True) (okp := fun _ => True) ?hr ?hp (fun _ hk => hk) trivial (Below.refl _ _) (Nat.le_refl _) (by simp) ?_; (case hd => rfl); (case hg => rfl); (case hr => first | (go_simp; done) | (go_simp; rfl)); (case hp => exact (Reps.one (show Kd.M (Kd.int .i64) _ _ _ a0_1 [.int .i64 a0_1] from rfl) (Reps.one (show Kd.M (Kd.int .i64) _ _ _ a0_2 [.int .i64 a0_2] from rfl) (Reps.one (show Kd.M (Kd.int .i64) _ _ _ a0_3 [.int .i64 a0_3] from rfl) (Reps.one (show Kd.M (Kd.int .i64) _ _ _ a0_4 [.int .i64 a0_4] from rfl) (Reps.none _ _)))))); intro g7 w11 b2 hb hg_ hnew_; clear hg_ hnew_; (first | rw [← Ny105.out] at b2 | (simp only [Int.reduceToNat] at b2; rw [← Ny105.out] at b2)); have c9 := yaa (Kd.R_lower b2 (below_size (by repeat (with_reducible first | exact HB.out | apply below_alloc | apply yab | apply below_drew1 | refine below_set ?_ (Aside0.out ‹_›))))); replace a5 := yaa (blk_below (upB a5.out) hb); replace HB := yaa (below_step (by repeat (with_reducible first | exact HB.out | apply below_alloc | apply yab | apply below_drew1 | refine below_set ?_ (Aside0.out ‹_›))) hb); clear hb b2))
  (try simp only [Act.put, List.setIfInBounds_toArray, List.set_cons_zero, List.set_cons_succ])
  go_loopg [3, 6] k (fun kq v3 v6 w' => ∃ (a7 : ByteArray) (a6 : Int), v3 = .string a7 ∧ v6 = .int .i64 a6 ∧ Aside0 (spec_OpText.l0 kq a7 a9 y105 a6 = some r) ∧ Aside0 (kq ≤ k) ∧ Aside0 (Kd.R (Kd.int .i64) 3 w' w.heap.size (fun _ => True) g7 y105) ∧ Aside0 (w'.heap[a8]? = some (.cells #[.int .i64 a0_0, .int .i64 a0_1, .int .i64 a0_2, .int .i64 a0_3, .int .i64 a0_4] 25 (0, 0))) ∧ Aside0 (Below w.heap.size w w'))
  case atStart => exact ⟨(d1), (0), (by first | rfl | (simp; done) | (simp [*]; done)), (by first | rfl | (simp; done) | (simp [*]; done)), H', ⟨Nat.le_refl _⟩, ⟨by first | exact c9.out | exact upR c9.out⟩, ⟨by exact upB a5.out⟩, ⟨by repeat (with_reducible first | exact HB.out | apply below_alloc | apply yab | apply below_drew1 | refine below_set ?_ (Aside0.out ‹_›))⟩⟩
  case round =>
   clear H'; (try clear c1); (try clear p2); (try clear c3); (try clear c5); (try clear b5); (try clear b6); (try clear b7); (try clear b8); (try clear b9); (try clear d2); (try clear d3); (try clear d4); (try clear d5); (try clear d6); (try clear e4); (try clear e5); (try clear e6); (try clear e7); (try clear e8); (try clear c0); (try clear c2); (try clear c4); (try clear c6); (try clear c7); (try clear d8); (try clear d9); (try clear e0); (try clear e1); (try clear e3); (try clear e9); (try clear f0); (try clear f1); (try clear f2); (try clear f3); obtain ⟨a7, a6, rfl, rfl, HA, HK1, b0, a5, HB⟩ := hrel
   cases gk with
   | zero => exact absurd HA.out (by simp [spec_OpText.l0])
   | succ k1 =>
    have H := HA.out; clear HA
    simp only [spec_OpText.l0] at H
    by_cases c13 : a6 < a9
    ·
     rw [if_pos c13] at H
     have f5 : decide (a6 < a9) = true := decide_eq_true c13; clear c13
     by_cases c14 : a7.size + 1 ≤ 9223372036854775807
     ·
      rw [if_pos c14] at H
      have h0 := eq_true c14; have h1 : decide (a7.size + 1 ≤ 9223372036854775807) = true := decide_eq_true c14
      try have h2 : (9223372036854775807 < a7.size + 1) = False := eq_false (Nat.not_lt.2 c14)
      by_cases c15 : 0 ≤ a6
      ·
       rw [if_pos c15] at H
       replace c15 := decide_eq_true c15
       by_cases c16 : a6 < (y105.length : Int)
       ·
        rw [if_pos c16] at H
        replace c16 := decide_eq_true c16; obtain ⟨b3, A17, H⟩ := bindA H; (try dsimp only at H)
        by_cases c18 : (a7 ++ (⟨#[46]⟩ : ByteArray)).size + b3.size ≤ 9223372036854775807
        ·
         rw [if_pos c18] at H
         have h3 := eq_true c18; have h4 : decide ((a7 ++ (⟨#[46]⟩ : ByteArray)).size + b3.size ≤ 9223372036854775807) = true := decide_eq_true c18
         try have h5 : (9223372036854775807 < (a7 ++ (⟨#[46]⟩ : ByteArray)).size + b3.size) = False := eq_false (Nat.not_lt.2 c18)
         try (have b4 := c18; simp only [ByteArray.size_append', ByteArray.size_mk', List.size_toArray, List.length_cons, List.length_nil, Nat.zero_add, Nat.reduceAdd] at b4; replace b4 := eq_false (Nat.not_lt.2 b4))
         have H' := yaa H; clear H; obtain ⟨h6, h7, g8⟩ := Kd.R_slice b0.out; subst g8; have p108 : 0 ≤ (a6 : Int) := of_decide_eq_true (by assumption); have q108 : a6 < (y105.length : Int) := of_decide_eq_true (by assumption); obtain ⟨ad108, g9, f6⟩ := Kd.at_int (Kd.R_reads' b0.out).2.2 a6 p108 q108
         cases g9
         replace p108 := eq_true p108; replace q108 := eq_true q108
         go_wp2_with (first | ((with_reducible refine gc_ 52 rfl ?_); refine gl_ (some 36) rfl Tryd.func52 #[.int .i64 (rd y105 a6)] ?_; (with_reducible refine (spec_l7Plain.calls k1 (rd y105 a6) b3 _ A17.out).mono ?_); rintro e w20 ⟨rfl, hb⟩; refine ⟨_, rfl, ?_⟩; replace b0 := yaa (Kd.R_below (upR b0.out) hb); replace a5 := yaa (blk_below (upB a5.out) hb); replace HB := yaa (below_step (by repeat (with_reducible first | exact HB.out | apply below_alloc | apply yab | apply below_drew1 | refine below_set ?_ (Aside0.out ‹_›))) hb); (try clear hb)))
         go_roundg k1
         case measure => have := HK1.out; omega
         case rel => exact ⟨((a7 ++ (⟨#[46]⟩ : ByteArray)) ++ b3), (wrap64 (a6 + 1)), (by first | rfl | (simp; done) | (simp [*]; done)), (by first | rfl | (simp; done) | (simp [*]; done)), H', ⟨by have := HK1.out; omega⟩, ⟨by first | exact b0.out | exact upR b0.out⟩, ⟨by exact upB a5.out⟩, ⟨by repeat (with_reducible first | exact HB.out | apply below_alloc | apply yab | apply below_drew1 | refine below_set ?_ (Aside0.out ‹_›))⟩⟩
        ·
         rw [if_neg c18] at H
         exact absurd H (by simp)
       ·
        rw [if_neg c16] at H
        exact absurd H (by simp)
      ·
       rw [if_neg c15] at H
       exact absurd H (by simp)
     ·
      rw [if_neg c14] at H
      exact absurd H (by simp)
    ·
     rw [if_neg c13] at H
     have f5 : decide (a6 < a9) = false := decide_eq_false c13; clear c13; obtain rfl := Option.some.inj H
     go_wp2
     go_ret
     exact ⟨by first | rfl | (simp [*, errW_none, errW_some] <;> rfl), by repeat (with_reducible first | exact HB.out | apply below_alloc | apply yab | apply below_drew1 | refine below_set ?_ (Aside0.out ‹_›))⟩
 ·
  replace c3 := Bool.eq_false_iff.mpr c3
  subst c3
  rw [if_neg (show ¬ (false = true) by decide)] at H
  obtain rfl := Option.some.inj H
  go_enter Tryd.func13, Tryd.ntmps13
  go_wp2_with (first | ((with_reducible refine gd_ 1 rfl ?_); refine bx_ 1 rfl #[.int .i64 a0_0, .int .i64 a0_1, .int .i64 a0_2, .int .i64 a0_3, .int .i64 a0_4] 25 ?_; intro a8 hg w21 hbox hb; have a5 := yaa (hbox); have b1 := yaa ((by rw [hg]; exact (below_size (upH HB.out)) : w.heap.size ≤ a8)); replace HB := yaa (below_step (upH HB.out) hb); have f4 := b1; clear hb hbox hg; obtain ⟨f7, f8, f9, g0, g1⟩ := cc5_ a5.out; obtain ⟨g2, g3, g4, g5⟩ := cf4_ a5.out; have g6 := blk_frozen a5.out 4) | ((with_reducible refine gc_ 35 rfl ?_); refine gl_ (some 8) rfl Tryd.func35 #[.agg #[.int .i64 a0_0, .int .i64 a0_1, .int .i64 a0_2, .int .i64 a0_3, .int .i64 a0_4]] ?_; (with_reducible refine (spec_OpOk.calls a0_0 a0_1 a0_2 a0_3 a0_4 false _ A2.out).mono ?_); rintro e w23 ⟨rfl, hb⟩; refine ⟨_, rfl, ?_⟩; replace a5 := yaa (blk_below (upB a5.out) hb); replace HB := yaa (below_step (by repeat (with_reducible first | exact HB.out | apply below_alloc | apply yab | apply below_drew1 | refine below_set ?_ (Aside0.out ‹_›))) hb); (try clear hb)))
  go_ret
  exact ⟨by first | rfl | (simp [*, errW_none, errW_some] <;> rfl), by repeat (with_reducible first | exact HB.out | apply below_alloc | apply yab | apply below_drew1 | refine below_set ?_ (Aside0.out ‹_›))⟩
end
section
def spec_l7Ops.l0 : Nat → List (S25) → ByteArray → Int → Option (ByteArray)
 | 0, _, _, _ => none
 | k + 1, x0, x3, x4 => if x4 < (x0.length : Int) then (if x4 > 0 then (if x3.size + 1 ≤ 9223372036854775807 then (if 0 ≤ x4 then ((spec_OpText.f k ((rd_T25 x0 x4).f0) ((rd_T25 x0 x4).f1) ((rd_T25 x0 x4).f2) ((rd_T25 x0 x4).f3) ((rd_T25 x0 x4).f4)).bind fun t102 => (if (x3 ++ (⟨#[44]⟩ : ByteArray)).size + t102.size ≤ 9223372036854775807 then (spec_l7Ops.l0 k x0 ((x3 ++ (⟨#[44]⟩ : ByteArray)) ++ t102) (wrap64 (x4 + 1))) else (none))) else (none)) else (none)) else (if 0 ≤ x4 then ((spec_OpText.f k ((rd_T25 x0 x4).f0) ((rd_T25 x0 x4).f1) ((rd_T25 x0 x4).f2) ((rd_T25 x0 x4).f3) ((rd_T25 x0 x4).f4)).bind fun t104 => (if x3.size + t104.size ≤ 9223372036854775807 then (spec_l7Ops.l0 k x0 (x3 ++ t104) (wrap64 (x4 + 1))) else (none))) else (none))) else (some x3)
def spec_l7Ops.f (k : Nat) (l0 : List (S25)) : Option (ByteArray) := if (l0.length : Int) = 0 then (some (⟨#[45]⟩ : ByteArray)) else (spec_l7Ops.l0 k l0 (⟨#[]⟩ : ByteArray) 0)
set_option maxHeartbeats 8000000 in
set_option maxRecDepth 100000 in
theorem spec_l7Ops.calls (k : Nat) (A0 : Option Addr) (c0 : Nat) (l0 : List (S25)) (r : ByteArray) (w : World) (hr0 : Kd.C k25 w A0 l0.length l0) (hc0 : l0.length ≤ c0) (h : spec_l7Ops.f k l0 = some r) :
  Calls Tryd.prog 56 #[.slice A0 l0.length c0] w fun e w' => e = .returned (.string r) ∧ Below w.heap.size w w' := by
 have hu25 := Tryd.underlying25; have HR0 := Aside0.mk hr0; have HC0 := Aside0.mk hc0; clear hr0 hc0; have HB := Aside0.mk (Below.refl w.heap.size w); have H : (if (l0.length : Int) = 0 then (some (⟨#[45]⟩ : ByteArray)) else (spec_l7Ops.l0 k l0 (⟨#[]⟩ : ByteArray) 0)) = some r := h; clear h
 by_cases c2 : (l0.length : Int) = 0
 ·
  rw [if_pos c2] at H
  have b6 := beq_iff_eq.mpr c2; have b7 := bne_eq_false_iff_eq.mpr c2; clear c2; obtain rfl := Option.some.inj H
  go_enter Tryd.func56, Tryd.ntmps56
  go_wp2
  go_ret
  exact ⟨by first | rfl | (simp [*, errW_none, errW_some] <;> rfl), upH HB.out⟩
 ·
  rw [if_neg c2] at H
  have b6 := beq_eq_false_iff_ne.mpr c2; have b7 := bne_iff_ne.mpr c2; have b8 : ¬ (l0 = []) := fun h_ => c2 (by rw [h_]; rfl); have H' := Aside0.mk H; clear H
  go_enter Tryd.func56, Tryd.ntmps56
  go_wp2
  (try simp only [Act.put, List.setIfInBounds_toArray, List.set_cons_zero, List.set_cons_succ])
  go_loopg [3, 4] k (fun kq v3 v4 w' => ∃ (a2 : ByteArray) (a1 : Int), v3 = .string a2 ∧ v4 = .int .i64 a1 ∧ Aside0 (spec_l7Ops.l0 kq l0 a2 a1 = some r) ∧ Aside0 (kq ≤ k) ∧ Aside0 (Below w.heap.size w w'))
  case atStart => exact ⟨((⟨#[]⟩ : ByteArray)), (0), (by first | rfl | (simp; done) | (simp [*]; done)), (by first | rfl | (simp; done) | (simp [*]; done)), H', ⟨Nat.le_refl _⟩, ⟨upH HB.out⟩⟩
  case round =>
   clear H'; (try clear c2); (try clear b6); (try clear b7); (try clear b8); (try clear p2); obtain ⟨a2, a1, rfl, rfl, HA, HK1, HB⟩ := hrel
   cases gk with
   | zero => exact absurd HA.out (by simp [spec_l7Ops.l0])
   | succ k1 =>
    have H := HA.out; clear HA
    simp only [spec_l7Ops.l0] at H
    by_cases c3 : a1 < (l0.length : Int)
    ·
     rw [if_pos c3] at H
     have b9 : decide (a1 < (l0.length : Int)) = true := decide_eq_true c3; clear c3
     by_cases c4 : a1 > 0
     ·
      rw [if_pos c4] at H
      have c1 : decide (0 < a1) = true := decide_eq_true c4; clear c4
      by_cases c5 : a2.size + 1 ≤ 9223372036854775807
      ·
       rw [if_pos c5] at H
       have d3 := eq_true c5; have d4 : decide (a2.size + 1 ≤ 9223372036854775807) = true := decide_eq_true c5
       try have d5 : (9223372036854775807 < a2.size + 1) = False := eq_false (Nat.not_lt.2 c5)
       by_cases c6 : 0 ≤ a1
       ·
        rw [if_pos c6] at H
        replace c6 := decide_eq_true c6; obtain ⟨b3, A7, H⟩ := bindA H; (try dsimp only at H)
        by_cases c8 : (a2 ++ (⟨#[44]⟩ : ByteArray)).size + b3.size ≤ 9223372036854775807
        ·
         rw [if_pos c8] at H
         have d6 := eq_true c8; have d7 : decide ((a2 ++ (⟨#[44]⟩ : ByteArray)).size + b3.size ≤ 9223372036854775807) = true := decide_eq_true c8
         try have d8 : (9223372036854775807 < (a2 ++ (⟨#[44]⟩ : ByteArray)).size + b3.size) = False := eq_false (Nat.not_lt.2 c8)
         try (have b5 := c8; simp only [ByteArray.size_append', ByteArray.size_mk', List.size_toArray, List.length_cons, List.length_nil, Nat.zero_add, Nat.reduceAdd] at b5; replace b5 := eq_false (Nat.not_lt.2 b5))
         have H' := Aside0.mk H; clear H; have p101 : 0 ≤ (a1 : Int) := of_decide_eq_true (by assumption); have q101 : a1 < (l0.length : Int) := of_decide_eq_true (by assumption); obtain ⟨ad101, c7, a3, a4, a5, a6, a7⟩ := at_T25 HR0.out a1 p101 q101
         cases c7
         replace a3 := (upc_ HB.out a3 :); replace a4 := (upc_ HB.out a4 :); replace a5 := (upc_ HB.out a5 :); replace a6 := (upc_ HB.out a6 :); replace a7 := (upc_ HB.out a7 :); replace p101 := eq_true p101; replace q101 := eq_true q101
         go_wp2_with (first | ((with_reducible refine gc_ 13 rfl ?_); refine gl_ (some 23) rfl Tryd.func13 #[.agg #[.int .i64 ((rd_T25 l0 a1).f0), .int .i64 ((rd_T25 l0 a1).f1), .int .i64 ((rd_T25 l0 a1).f2), .int .i64 ((rd_T25 l0 a1).f3), .int .i64 ((rd_T25 l0 a1).f4)]] ?_; (with_reducible refine (spec_OpText.calls k1 ((rd_T25 l0 a1).f0) ((rd_T25 l0 a1).f1) ((rd_T25 l0 a1).f2) ((rd_T25 l0 a1).f3) ((rd_T25 l0 a1).f4) b3 _ A7.out).mono ?_); rintro e w9 ⟨rfl, hb⟩; refine ⟨_, rfl, ?_⟩; replace HB := Aside0.mk (below_step (upH HB.out) hb); (try clear hb)))
         go_roundg k1
         case measure => have := HK1.out; omega
         case rel => exact ⟨((a2 ++ (⟨#[44]⟩ : ByteArray)) ++ b3), (wrap64 (a1 + 1)), (by first | rfl | (simp; done) | (simp [*]; done)), (by first | rfl | (simp; done) | (simp [*]; done)), H', ⟨by have := HK1.out; omega⟩, ⟨upH HB.out⟩⟩
        ·
         rw [if_neg c8] at H
         exact absurd H (by simp)
       ·
        rw [if_neg c6] at H
        exact absurd H (by simp)
      ·
       rw [if_neg c5] at H
       exact absurd H (by simp)
     ·
      rw [if_neg c4] at H
      have c1 : decide (0 < a1) = false := decide_eq_false c4; clear c4
      by_cases c10 : 0 ≤ a1
      ·
       rw [if_pos c10] at H
       replace c10 := decide_eq_true c10; obtain ⟨b4, A11, H⟩ := bindA H; (try dsimp only at H)
       by_cases c12 : a2.size + b4.size ≤ 9223372036854775807
       ·
        rw [if_pos c12] at H
        have d0 := eq_true c12; have d1 : decide (a2.size + b4.size ≤ 9223372036854775807) = true := decide_eq_true c12
        try have d2 : (9223372036854775807 < a2.size + b4.size) = False := eq_false (Nat.not_lt.2 c12)
        have H' := Aside0.mk H; clear H; have p103 : 0 ≤ (a1 : Int) := of_decide_eq_true (by assumption); have q103 : a1 < (l0.length : Int) := of_decide_eq_true (by assumption); obtain ⟨ad103, c9, a8, a9, b0, b1, b2⟩ := at_T25 HR0.out a1 p103 q103
        cases c9
        replace a8 := (upc_ HB.out a8 :); replace a9 := (upc_ HB.out a9 :); replace b0 := (upc_ HB.out b0 :); replace b1 := (upc_ HB.out b1 :); replace b2 := (upc_ HB.out b2 :); replace p103 := eq_true p103; replace q103 := eq_true q103
        go_wp2_with (first | ((with_reducible refine gc_ 13 rfl ?_); refine gl_ (some 23) rfl Tryd.func13 #[.agg #[.int .i64 ((rd_T25 l0 a1).f0), .int .i64 ((rd_T25 l0 a1).f1), .int .i64 ((rd_T25 l0 a1).f2), .int .i64 ((rd_T25 l0 a1).f3), .int .i64 ((rd_T25 l0 a1).f4)]] ?_; (with_reducible refine (spec_OpText.calls k1 ((rd_T25 l0 a1).f0) ((rd_T25 l0 a1).f1) ((rd_T25 l0 a1).f2) ((rd_T25 l0 a1).f3) ((rd_T25 l0 a1).f4) b4 _ A11.out).mono ?_); rintro e w13 ⟨rfl, hb⟩; refine ⟨_, rfl, ?_⟩; replace HB := Aside0.mk (below_step (upH HB.out) hb); (try clear hb)))
        go_roundg k1
        case measure => have := HK1.out; omega
        case rel => exact ⟨(a2 ++ b4), (wrap64 (a1 + 1)), (by first | rfl | (simp; done) | (simp [*]; done)), (by first | rfl | (simp; done) | (simp [*]; done)), H', ⟨by have := HK1.out; omega⟩, ⟨upH HB.out⟩⟩
       ·
        rw [if_neg c12] at H
        exact absurd H (by simp)
      ·
       rw [if_neg c10] at H
       exact absurd H (by simp)
    ·
     rw [if_neg c3] at H
     have b9 : decide (a1 < (l0.length : Int)) = false := decide_eq_false c3; clear c3; obtain rfl := Option.some.inj H
     go_wp2
     go_ret
     exact ⟨by first | rfl | (simp [*, errW_none, errW_some] <;> rfl), upH HB.out⟩
end
section
open Go.Proofs.YtiihhjfdgojkeaaDoorW.PrintWords.Aside0 renaming mk → yaa

abbrev q17_0 : Array Bool := Array.replicate 14 false
abbrev q17_1 : Array Bool := bl_ 14 1
abbrev q17_2 : Array Bool := bl_ 14 33
abbrev q17_3 : Array Bool := bl_ 14 545
abbrev q17_4 : Array Bool := bl_ 14 547
abbrev q17_5 : Array Bool := bl_ 14 611
abbrev q17_6 : Array Bool := bl_ 14 1635
abbrev q17_7 : Array Bool := bl_ 14 1639
abbrev q17_8 : Array Bool := bl_ 14 1647
abbrev q17_9 : Array Bool := bl_ 14 1663
abbrev q17_10 : Array Bool := bl_ 14 1791
abbrev q17_11 : Array Bool := bl_ 14 2047
abbrev q17_12 : Array Bool := bl_ 14 4095
abbrev q17_13 : Array Bool := bl_ 14 8191
abbrev q17_14 : Array Bool := bl_ 14 16383
def spec_AskText.f (k : Nat) (l0_0 : List (S25)) (a0_1 : ByteArray) (a0_2 : Int) : Option (ByteArray) := (spec_AskOk.f k l0_0 a0_1 a0_2).bind fun t102 => (if t102 = true then ((spec_l7Ops.f k l0_0).bind fun t103 => (if 1 + t103.size ≤ 9223372036854775807 then (if ((⟨#[47]⟩ : ByteArray) ++ t103).size + 1 ≤ 9223372036854775807 then (if (((⟨#[47]⟩ : ByteArray) ++ t103) ++ (⟨#[47]⟩ : ByteArray)).size + a0_1.size ≤ 9223372036854775807 then (if ((((⟨#[47]⟩ : ByteArray) ++ t103) ++ (⟨#[47]⟩ : ByteArray)) ++ a0_1).size + 3 ≤ 9223372036854775807 then ((spec_l7Plain.f k a0_2).bind fun t104 => (if (((((⟨#[47]⟩ : ByteArray) ++ t103) ++ (⟨#[47]⟩ : ByteArray)) ++ a0_1) ++ (⟨#[63, 101, 61]⟩ : ByteArray)).size + t104.size ≤ 9223372036854775807 then (some ((((((⟨#[47]⟩ : ByteArray) ++ t103) ++ (⟨#[47]⟩ : ByteArray)) ++ a0_1) ++ (⟨#[63, 101, 61]⟩ : ByteArray)) ++ t104)) else (none))) else (none)) else (none)) else (none)) else (none))) else (some (⟨#[]⟩ : ByteArray)))
def spec_AskText.T3 : Bool × List (List Nat × List Nat) := (true, [([], []), ([0], [0]), ([1], [1]), ([2], [2]), ([3], [3]), ([], []), ([5], [5]), ([4, 6], [4, 6]), ([7], [7]), ([], []), ([9], [9]), ([10, 2], [10]), ([8, 11], [8, 11]), ([12, 11, 0, 1, 2, 3, 4, 5, 6, 7, 8, 9, 10, 11, 12], [12])])
def spec_AskText.B3 : List Nat := [0, 1, 3, 7, 15, 0, 32, 127, 255, 0, 512, 1543, 4095, 8191]
theorem spec_AskText.tab3 : rtab .any (opsOf Tryd.f17 3) = spec_AskText.T3 := by kernel_rfl
theorem spec_AskText.bits3 : waitsOk spec_AskText.T3.2 spec_AskText.B3 = true := by kernel_rfl
set_option maxHeartbeats 8000000 in
set_option maxRecDepth 100000 in
theorem spec_AskText.calls (k : Nat) (A0_0 : Option Addr) (c0_0 : Nat) (l0_0 : List (S25)) (a0_1 : ByteArray) (a0_2 : Int) (r : ByteArray) (w : World) (hr0_0 : Kd.C k25 w A0_0 l0_0.length l0_0) (hc0_0 : l0_0.length ≤ c0_0) (h : spec_AskText.f k l0_0 a0_1 a0_2 = some r) :
  Calls Tryd.prog 17 #[.agg #[.slice A0_0 l0_0.length c0_0, .string a0_1, .int .i64 a0_2]] w fun e w' => e = .returned (.string r) ∧ Below w.heap.size w w' := by
 have hu35 := Tryd.underlying35; have HR0_0 := yaa hr0_0; have HC0_0 := yaa hc0_0; clear hr0_0 hc0_0; have HB := yaa (Below.refl w.heap.size w); have H : ((spec_AskOk.f k l0_0 a0_1 a0_2).bind fun a9 => (if a9 = true then ((spec_l7Ops.f k l0_0).bind fun a4 => (if 1 + a4.size ≤ 9223372036854775807 then (if ((⟨#[47]⟩ : ByteArray) ++ a4).size + 1 ≤ 9223372036854775807 then (if (((⟨#[47]⟩ : ByteArray) ++ a4) ++ (⟨#[47]⟩ : ByteArray)).size + a0_1.size ≤ 9223372036854775807 then (if ((((⟨#[47]⟩ : ByteArray) ++ a4) ++ (⟨#[47]⟩ : ByteArray)) ++ a0_1).size + 3 ≤ 9223372036854775807 then ((spec_l7Plain.f k a0_2).bind fun a6 => (if (((((⟨#[47]⟩ : ByteArray) ++ a4) ++ (⟨#[47]⟩ : ByteArray)) ++ a0_1) ++ (⟨#[63, 101, 61]⟩ : ByteArray)).size + a6.size ≤ 9223372036854775807 then (some ((((((⟨#[47]⟩ : ByteArray) ++ a4) ++ (⟨#[47]⟩ : ByteArray)) ++ a0_1) ++ (⟨#[63, 101, 61]⟩ : ByteArray)) ++ a6)) else (none))) else (none)) else (none)) else (none)) else (none))) else (some (⟨#[]⟩ : ByteArray)))) = some r := h; clear h; obtain ⟨a9, A2, H⟩ := bindA H; (try dsimp only at H)
 by_cases c3 : a9 = true
 ·
  subst c3
  rw [if_pos rfl] at H
  obtain ⟨a4, A4, H⟩ := bindA H; (try dsimp only at H)
  by_cases c5 : 1 + a4.size ≤ 9223372036854775807
  ·
   rw [if_pos c5] at H
   have d6 := eq_true c5; have d7 : decide (1 + a4.size ≤ 9223372036854775807) = true := decide_eq_true c5
   try have d8 : (9223372036854775807 < 1 + a4.size) = False := eq_false (Nat.not_lt.2 c5)
   by_cases c6 : ((⟨#[47]⟩ : ByteArray) ++ a4).size + 1 ≤ 9223372036854775807
   ·
    rw [if_pos c6] at H
    have d9 := eq_true c6; have e0 : decide (((⟨#[47]⟩ : ByteArray) ++ a4).size + 1 ≤ 9223372036854775807) = true := decide_eq_true c6
    try have e1 : (9223372036854775807 < ((⟨#[47]⟩ : ByteArray) ++ a4).size + 1) = False := eq_false (Nat.not_lt.2 c6)
    try (have b0 := c6; simp only [ByteArray.size_append', ByteArray.size_mk', List.size_toArray, List.length_cons, List.length_nil, Nat.zero_add, Nat.reduceAdd] at b0; replace b0 := eq_false (Nat.not_lt.2 b0))
    by_cases c7 : (((⟨#[47]⟩ : ByteArray) ++ a4) ++ (⟨#[47]⟩ : ByteArray)).size + a0_1.size ≤ 9223372036854775807
    ·
     rw [if_pos c7] at H
     have e2 := eq_true c7; have e3 : decide ((((⟨#[47]⟩ : ByteArray) ++ a4) ++ (⟨#[47]⟩ : ByteArray)).size + a0_1.size ≤ 9223372036854775807) = true := decide_eq_true c7
     try have e4 : (9223372036854775807 < (((⟨#[47]⟩ : ByteArray) ++ a4) ++ (⟨#[47]⟩ : ByteArray)).size + a0_1.size) = False := eq_false (Nat.not_lt.2 c7)
     try (have b1 := c7; simp only [ByteArray.size_append', ByteArray.size_mk', List.size_toArray, List.length_cons, List.length_nil, Nat.zero_add, Nat.reduceAdd] at b1; replace b1 := eq_false (Nat.not_lt.2 b1))
     by_cases c8 : ((((⟨#[47]⟩ : ByteArray) ++ a4) ++ (⟨#[47]⟩ : ByteArray)) ++ a0_1).size + 3 ≤ 9223372036854775807
     ·
      rw [if_pos c8] at H
      have e5 := eq_true c8; have e6 : decide (((((⟨#[47]⟩ : ByteArray) ++ a4) ++ (⟨#[47]⟩ : ByteArray)) ++ a0_1).size + 3 ≤ 9223372036854775807) = true := decide_eq_true c8
      try have e7 : (9223372036854775807 < ((((⟨#[47]⟩ : ByteArray) ++ a4) ++ (⟨#[47]⟩ : ByteArray)) ++ a0_1).size + 3) = False := eq_false (Nat.not_lt.2 c8)
      try (have b2 := c8; simp only [ByteArray.size_append', ByteArray.size_mk', List.size_toArray, List.length_cons, List.length_nil, Nat.zero_add, Nat.reduceAdd] at b2; replace b2 := eq_false (Nat.not_lt.2 b2))
      obtain ⟨a6, A9, H⟩ := bindA H; (try dsimp only at H)
      by_cases c10 : (((((⟨#[47]⟩ : ByteArray) ++ a4) ++ (⟨#[47]⟩ : ByteArray)) ++ a0_1) ++ (⟨#[63, 101, 61]⟩ : ByteArray)).size + a6.size ≤ 9223372036854775807
      ·
       rw [if_pos c10] at H
       have d3 := eq_true c10; have d4 : decide ((((((⟨#[47]⟩ : ByteArray) ++ a4) ++ (⟨#[47]⟩ : ByteArray)) ++ a0_1) ++ (⟨#[63, 101, 61]⟩ : ByteArray)).size + a6.size ≤ 9223372036854775807) = true := decide_eq_true c10
       try have d5 : (9223372036854775807 < (((((⟨#[47]⟩ : ByteArray) ++ a4) ++ (⟨#[47]⟩ : ByteArray)) ++ a0_1) ++ (⟨#[63, 101, 61]⟩ : ByteArray)).size + a6.size) = False := eq_false (Nat.not_lt.2 c10)
       try (have a7 := c10; simp only [ByteArray.size_append', ByteArray.size_mk', List.size_toArray, List.length_cons, List.length_nil, Nat.zero_add, Nat.reduceAdd] at a7; replace a7 := eq_false (Nat.not_lt.2 a7))
       obtain rfl := Option.some.inj H
       go_enter Tryd.func17, Tryd.ntmps17
       try go_wp2_with (first | ((with_reducible refine gd_ 1 rfl ?_); refine bx_ 1 rfl #[.slice A0_0 l0_0.length c0_0, .string a0_1, .int .i64 a0_2] 35 ?_; intro a5 hg w11 hbox hb; have a3 := yaa (hbox); have a8 := yaa ((by rw [hg]; exact (below_size (upH HB.out)) : w.heap.size ≤ a5)); replace HB := yaa (below_step (upH HB.out) hb); have b3 := a8; clear hb hbox hg; obtain ⟨b4, b5, b6⟩ := cc3_ a3.out; obtain ⟨b7, b8⟩ := cf2_ a3.out; have b9 := blk_frozen a3.out 2) | ((with_reducible refine gc_ 22 rfl ?_); refine gl_ (some 4) rfl Tryd.func22 #[.agg #[.slice A0_0 l0_0.length c0_0, .string a0_1, .int .i64 a0_2]] ?_; (with_reducible refine (spec_AskOk.calls k _ _ l0_0 a0_1 a0_2 true _ ?side1 ?side2 A2.out).mono ?_); (case side1 => repeat (first | exact (Kd.C_below HR0_0.out HB.out) | (with_reducible refine Kd.C_alloc ?_ _) | (with_reducible refine Kd.C_drewN ?_ _) | (with_reducible refine Kd.C_drew ?_))); (case side2 => exact HC0_0.out); rintro e w13 ⟨rfl, hb⟩; refine ⟨_, rfl, ?_⟩; replace a3 := yaa (blk_below (upB a3.out) hb); replace HB := yaa (below_step (by repeat (with_reducible first | exact HB.out | apply below_alloc | apply pw_below_drewN | apply below_drew1 | refine below_set ?_ (Aside0.out ‹_›))) hb); (try clear hb)))
       replace a3 := yaa (blk_drew a3.out); replace HB := yaa (below_drew1 HB.out)
       refine start_ (n := 14) (S := fun w' => w'.cell? ⟨a5, 0, none⟩ = some (.slice A0_0 l0_0.length c0_0) ∧ w'.cell? ⟨a5, 1, none⟩ = some (.string a0_1) ∧ w'.cell? ⟨a5, 2, none⟩ = some (.int .i64 a0_2)) (ds := []) q17_0 (by kernel_rfl) rfl rfl ⟨(blk_cell a3.out 0).trans rfl, (blk_cell a3.out 1).trans rfl, (blk_cell a3.out 2).trans rfl⟩ (fun hHeld => ?_); refine with_tabW spec_AskText.tab3 spec_AskText.bits3 (fun HT_ HW_ => ?_)
       generalize w13.drew = w14 at a3 HB hHeld ⊢
       refine pz_ 0 6 q17_1 HT_ (by kernel_rfl) ?_
       refine pz_ 5 11 q17_2 HT_ (by kernel_rfl) ?_
       refine pz_ 9 15 q17_3 HT_ (by kernel_rfl) ?_
       refine tz_ 1 7 q17_4 HT_ HW_ (by kernel_rfl) hHeld ?_
       refine tz_ 6 12 q17_5 HT_ HW_ (by kernel_rfl) hHeld ?_
       refine tz_ 10 16 q17_6 HT_ HW_ (by kernel_rfl) hHeld ?_
       refine one_ (i := 2) (N := some 8) q17_7 rfl rfl (one_of HT_.out (by kernel_rfl)) (by decide) (fun K hK => ?_)
       refine goes_ Tryd.func56 (by kernel_rfl) rfl #[.slice A0_0 l0_0.length c0_0] (by rfl) rfl rfl (by (try simp only [List.map_toArray, List.map_cons, List.map_nil]); first | done | rfl | (simp only [List.length_drop, List.length_take]; rfl)) ?_
       with_reducible refine (spec_l7Ops.calls k _ _ l0_0 a4 _ ?side1 ?side2 A4.out).mono ?_
       (case side1 => repeat (first | exact (Kd.C_below HR0_0.out HB.out) | (with_reducible refine Kd.C_alloc ?_ _) | (with_reducible refine Kd.C_drewN ?_ _) | (with_reducible refine Kd.C_drew ?_)))
       (case side2 => exact HC0_0.out)
       rintro e w15 ⟨rfl, hb⟩; refine ⟨_, rfl, ?_⟩; have n0_ := yaa (blk_below (upB a3.out) hb)
       have n1_ := yaa (below_step (by repeat (with_reducible first | exact HB.out | apply below_alloc | apply pw_below_drewN | apply below_drew1 | refine below_set ?_ (Aside0.out ‹_›))) hb)
       clear a3; clear HB; have a3 := n0_; have HB := n1_; clear n0_ n1_; (try clear hb); (try clear hb2); (try clear hk); (try clear hi)
       refine hK.out _ _ ⟨(blk_cell a3.out 0).trans rfl, (blk_cell a3.out 1).trans rfl, (blk_cell a3.out 2).trans rfl⟩ (fun hHeld => ?_)
       clear hK K
       refine norm_ (a' := ?_) ?_ ?_
       rotate_left
       ·
        show Act.put _ (some 8) _ = _
        simp only [Act.put, List.setIfInBounds_toArray, List.set_cons_zero, List.set_cons_succ, i64_w, i32_w]
        rfl
       refine pz_ 3 9 q17_8 HT_ (by kernel_rfl) ?_
       refine pz_ 4 10 q17_9 HT_ (by kernel_rfl) ?_
       refine pz_ 7 13 q17_10 HT_ (by kernel_rfl) ?_
       refine pz_ 8 14 q17_11 HT_ (by kernel_rfl) ?_
       refine one_ (i := 11) (N := some 17) q17_12 rfl rfl (one_of HT_.out (by kernel_rfl)) (by decide) (fun K hK => ?_)
       refine goes_ Tryd.func52 (by kernel_rfl) rfl #[.int .i64 a0_2] (by rfl) rfl rfl (by (try simp only [List.map_toArray, List.map_cons, List.map_nil]); first | done | rfl | (simp only [List.length_drop, List.length_take]; rfl)) ?_
       with_reducible refine (spec_l7Plain.calls k a0_2 a6 _ A9.out).mono ?_
       rintro e w16 ⟨rfl, hb⟩; refine ⟨_, rfl, ?_⟩; have n0_ := yaa (blk_below (upB a3.out) hb)
       have n1_ := yaa (below_step (by repeat (with_reducible first | exact HB.out | apply below_alloc | apply pw_below_drewN | apply below_drew1 | refine below_set ?_ (Aside0.out ‹_›))) hb)
       clear a3; clear HB; have a3 := n0_; have HB := n1_; clear n0_ n1_; (try clear hb); (try clear hb2); (try clear hk); (try clear hi)
       refine hK.out _ _ ⟨(blk_cell a3.out 0).trans rfl, (blk_cell a3.out 1).trans rfl, (blk_cell a3.out 2).trans rfl⟩ (fun hHeld => ?_)
       clear hK K
       refine norm_ (a' := ?_) ?_ ?_
       rotate_left
       ·
        show Act.put _ (some 17) _ = _
        simp only [Act.put, List.setIfInBounds_toArray, List.set_cons_zero, List.set_cons_succ, i64_w, i32_w]
        rfl
       refine pz_ 12 18 q17_13 HT_ (by kernel_rfl) ?_
       refine pz_ 13 2 q17_14 HT_ (by kernel_rfl) ?_
       refine done_ (done_of HT_.out (by kernel_rfl)) ?_
       try go_wp2
       go_ret
       exact ⟨by first | rfl | (simp [*, errW_none, errW_some] <;> rfl), by repeat (with_reducible first | exact HB.out | apply below_alloc | apply pw_below_drewN | apply below_drew1 | refine below_set ?_ (Aside0.out ‹_›))⟩
      ·
       rw [if_neg c10] at H
       exact absurd H (by simp)
     ·
      rw [if_neg c8] at H
      exact absurd H (by simp)
    ·
     rw [if_neg c7] at H
     exact absurd H (by simp)
   ·
    rw [if_neg c6] at H
    exact absurd H (by simp)
  ·
   rw [if_neg c5] at H
   exact absurd H (by simp)
 ·
  replace c3 := Bool.eq_false_iff.mpr c3
  subst c3
  rw [if_neg (show ¬ (false = true) by decide)] at H
  obtain rfl := Option.some.inj H
  go_enter Tryd.func17, Tryd.ntmps17
  go_wp2_with (first | ((with_reducible refine gd_ 1 rfl ?_); refine bx_ 1 rfl #[.slice A0_0 l0_0.length c0_0, .string a0_1, .int .i64 a0_2] 35 ?_; intro a5 hg w17 hbox hb; have a3 := yaa (hbox); have a8 := yaa ((by rw [hg]; exact (below_size (upH HB.out)) : w.heap.size ≤ a5)); replace HB := yaa (below_step (upH HB.out) hb); have b3 := a8; clear hb hbox hg; obtain ⟨c0, c1, c2⟩ := cc3_ a3.out; obtain ⟨c4, c9⟩ := cf2_ a3.out; have d0 := blk_frozen a3.out 2) | ((with_reducible refine gc_ 22 rfl ?_); refine gl_ (some 4) rfl Tryd.func22 #[.agg #[.slice A0_0 l0_0.length c0_0, .string a0_1, .int .i64 a0_2]] ?_; (with_reducible refine (spec_AskOk.calls k _ _ l0_0 a0_1 a0_2 false _ ?side1 ?side2 A2.out).mono ?_); (case side1 => repeat (first | exact (Kd.C_below HR0_0.out HB.out) | (with_reducible refine Kd.C_alloc ?_ _) | (with_reducible refine Kd.C_drewN ?_ _) | (with_reducible refine Kd.C_drew ?_))); (case side2 => exact HC0_0.out); rintro e w19 ⟨rfl, hb⟩; refine ⟨_, rfl, ?_⟩; replace a3 := yaa (blk_below (upB a3.out) hb); replace HB := yaa (below_step (by repeat (with_reducible first | exact HB.out | apply below_alloc | apply pw_below_drewN | apply below_drew1 | refine below_set ?_ (Aside0.out ‹_›))) hb); (try clear hb)))
  go_ret
  exact ⟨by first | rfl | (simp [*, errW_none, errW_some] <;> rfl), by repeat (with_reducible first | exact HB.out | apply below_alloc | apply pw_below_drewN | apply below_drew1 | refine below_set ?_ (Aside0.out ‹_›))⟩
end
section
open Go.Proofs.YtiihhjfdgojkeaaDoor.X renaming rd_T25 → yaa

def impl_opsOk.l0 : Nat → List (S25) → Int → Int → Option (Bool)
 | 0, _, _, _ => none
 | k + 1, x8, x9, x10 => if x10 < x9 then (if 0 ≤ x10 then (if x10 < (x8.length : Int) then ((impl_OpOk.f k ((rd_T25 x8 x10).f0) ((rd_T25 x8 x10).f1) ((rd_T25 x8 x10).f2) ((rd_T25 x8 x10).f3) ((rd_T25 x8 x10).f4)).bind fun t103 => (if t103 = true then (impl_opsOk.l0 k x8 x9 (wrap64 (x10 + 1))) else (some false))) else (none)) else (none)) else (some true)
def impl_opsOk.f (k : Nat) (l0 : List (S25)) : Option (Bool) := if (l0.length : Int) > 5 then (some false) else (impl_opsOk.l0 k l0 (l0.length : Int) 0)
set_option maxHeartbeats 8000000 in
set_option maxRecDepth 100000 in
theorem impl_opsOk.calls (k : Nat) (A0 : Option Addr) (c0 : Nat) (l0 : List (S25)) (r : Bool) (w : World) (hr0 : Kd.C k25 w A0 l0.length l0) (hc0 : l0.length ≤ c0) (h : impl_opsOk.f k l0 = some r) :
  Calls Tryd.prog 66 #[.slice A0 l0.length c0] w fun e w' => e = .returned (.bool r) ∧ Below w.heap.size w w' := by
 have hu25 := Tryd.underlying25; have HR0 := Aside0.mk hr0; have HC0 := Aside0.mk hc0; clear hr0 hc0; have HB := Aside0.mk (Below.refl w.heap.size w); have H : (if (l0.length : Int) > 5 then (some false) else (impl_opsOk.l0 k l0 (l0.length : Int) 0)) = some r := h; clear h
 by_cases c2 : (l0.length : Int) > 5
 ·
  rw [if_pos c2] at H
  have b1 : decide (5 < (l0.length : Int)) = true := decide_eq_true c2; have b2 : decide (5 < l0.length) = true := decide_eq_true (by omega); clear c2; obtain rfl := Option.some.inj H
  go_enter Tryd.func66, Tryd.ntmps66
  go_wp2
  go_ret
  exact ⟨by first | rfl | (simp [*, errW_none, errW_some] <;> rfl), upH HB.out⟩
 ·
  rw [if_neg c2] at H
  have b1 : decide (5 < (l0.length : Int)) = false := decide_eq_false c2; have b2 : decide (5 < l0.length) = false := decide_eq_false (by omega); clear c2; have H' := Aside0.mk H; clear H
  go_enter Tryd.func66, Tryd.ntmps66
  go_wp2
  (try simp only [Act.put, List.setIfInBounds_toArray, List.set_cons_zero, List.set_cons_succ])
  go_loopg [10] k (fun kq v10 w' => ∃ (a1 : Int), v10 = .int .i64 a1 ∧ Aside0 (impl_opsOk.l0 kq l0 (l0.length : Int) a1 = some r) ∧ Aside0 (kq ≤ k) ∧ Aside0 (Below w.heap.size w w'))
  case atStart => exact ⟨(0), (by first | rfl | (simp; done) | (simp [*]; done)), H', ⟨Nat.le_refl _⟩, ⟨upH HB.out⟩⟩
  case round =>
   clear H'; (try clear c2); (try clear b1); (try clear b2); (try clear p2); obtain ⟨a1, rfl, HA, HK1, HB⟩ := hrel
   cases gk with
   | zero => exact absurd HA.out (by simp [impl_opsOk.l0])
   | succ k1 =>
    have H := HA.out; clear HA
    simp only [impl_opsOk.l0] at H
    by_cases c3 : a1 < (l0.length : Int)
    ·
     rw [if_pos c3] at H
     have d0 : decide (a1 < (l0.length : Int)) = true := decide_eq_true c3; clear c3
     by_cases c4 : 0 ≤ a1
     ·
      rw [if_pos c4] at H
      replace c4 := decide_eq_true c4
      by_cases c5 : a1 < (l0.length : Int)
      ·
       rw [if_pos c5] at H
       replace c5 := decide_eq_true c5; obtain ⟨d1, A6, H⟩ := bindA H; (try dsimp only at H)
       by_cases c7 : d1 = true
       ·
        subst c7
        rw [if_pos rfl] at H
        have H' := Aside0.mk H; clear H; have p101 : 0 ≤ (a1 : Int) := of_decide_eq_true (by assumption); have q101 : a1 < (l0.length : Int) := of_decide_eq_true (by assumption); obtain ⟨ad101, b0, a3, a4, a5, a6, a7⟩ := at_T25 HR0.out a1 p101 q101
        cases b0
        replace a3 := (upc_ HB.out a3 :); replace a4 := (upc_ HB.out a4 :); replace a5 := (upc_ HB.out a5 :); replace a6 := (upc_ HB.out a6 :); replace a7 := (upc_ HB.out a7 :); replace p101 := eq_true p101; replace q101 := eq_true q101
        go_wp2_with (first | ((with_reducible refine gd_ 4 rfl ?_); refine bx_ 4 rfl #[.int .i64 0, .int .i64 0, .int .i64 0, .int .i64 0, .int .i64 0] 25 ?_; intro a8 hg w8 hbox hb; have a2 := Aside0.mk (hbox); have a9 := Aside0.mk ((by rw [hg]; exact (below_size (upH HB.out)) : w.heap.size ≤ a8)); replace HB := Aside0.mk (below_step (upH HB.out) hb); have b3 := a9; clear hb hbox hg; obtain ⟨d2, d3, d4, d5, d6⟩ := cc5_ a2.out; obtain ⟨d8, d9, e0, e1⟩ := cf4_ a2.out; have e3 := blk_frozen a2.out 4) | ((with_reducible refine gc_ 34 rfl ?_); refine gl_ (some 15) rfl Tryd.func34 #[.agg #[.int .i64 ((yaa l0 a1).f0), .int .i64 ((yaa l0 a1).f1), .int .i64 ((yaa l0 a1).f2), .int .i64 ((yaa l0 a1).f3), .int .i64 ((yaa l0 a1).f4)]] ?_; (with_reducible refine (impl_OpOk.calls k1 ((yaa l0 a1).f0) ((yaa l0 a1).f1) ((yaa l0 a1).f2) ((yaa l0 a1).f3) ((yaa l0 a1).f4) true _ A6.out).mono ?_); rintro e w10 ⟨rfl, hb⟩; refine ⟨_, rfl, ?_⟩; replace a2 := Aside0.mk (blk_below (g := a8) (o := .cells #[.int .i64 ((yaa l0 a1).f0), .int .i64 ((yaa l0 a1).f1), .int .i64 ((yaa l0 a1).f2), .int .i64 ((yaa l0 a1).f3), .int .i64 ((yaa l0 a1).f4)] 25 (0, 0)) (by (repeat refine oneB ?_); refine blk_put (cs := #[.int .i64 ((yaa l0 a1).f0), .int .i64 ((yaa l0 a1).f1), .int .i64 ((yaa l0 a1).f2), .int .i64 ((yaa l0 a1).f3), .int .i64 0]) ?_ 4 _ rfl; refine blk_put (cs := #[.int .i64 ((yaa l0 a1).f0), .int .i64 ((yaa l0 a1).f1), .int .i64 ((yaa l0 a1).f2), .int .i64 0, .int .i64 0]) ?_ 3 _ rfl; refine blk_put (cs := #[.int .i64 ((yaa l0 a1).f0), .int .i64 ((yaa l0 a1).f1), .int .i64 0, .int .i64 0, .int .i64 0]) ?_ 2 _ rfl; refine blk_put (cs := #[.int .i64 ((yaa l0 a1).f0), .int .i64 0, .int .i64 0, .int .i64 0, .int .i64 0]) ?_ 1 _ rfl; refine blk_put (cs := #[.int .i64 0, .int .i64 0, .int .i64 0, .int .i64 0, .int .i64 0]) ?_ 0 _ rfl; exact upB a2.out) hb); replace HB := Aside0.mk (below_step (by repeat (with_reducible first | exact HB.out | apply below_alloc | apply pw_below_drewN | apply below_drew1 | refine below_set ?_ (Aside0.out ‹_›))) hb); (try clear hb)))
        go_roundg k1
        case measure => have := HK1.out; omega
        case rel => exact ⟨(wrap64 (a1 + 1)), (by first | rfl | (simp; done) | (simp [*]; done)), H', ⟨by have := HK1.out; omega⟩, ⟨by repeat (with_reducible first | exact HB.out | apply below_alloc | apply pw_below_drewN | apply below_drew1 | refine below_set ?_ (Aside0.out ‹_›))⟩⟩
       ·
        replace c7 := Bool.eq_false_iff.mpr c7
        subst c7
        rw [if_neg (show ¬ (false = true) by decide)] at H
        obtain rfl := Option.some.inj H; have p101 : 0 ≤ (a1 : Int) := of_decide_eq_true (by assumption); have q101 : a1 < (l0.length : Int) := of_decide_eq_true (by assumption); obtain ⟨ad101, b0, a3, a4, a5, a6, a7⟩ := at_T25 HR0.out a1 p101 q101
        cases b0
        replace a3 := (upc_ HB.out a3 :); replace a4 := (upc_ HB.out a4 :); replace a5 := (upc_ HB.out a5 :); replace a6 := (upc_ HB.out a6 :); replace a7 := (upc_ HB.out a7 :); replace p101 := eq_true p101; replace q101 := eq_true q101
        go_wp2_with (first | ((with_reducible refine gd_ 4 rfl ?_); refine bx_ 4 rfl #[.int .i64 0, .int .i64 0, .int .i64 0, .int .i64 0, .int .i64 0] 25 ?_; intro a8 hg w11 hbox hb; have a2 := Aside0.mk (hbox); have a9 := Aside0.mk ((by rw [hg]; exact (below_size (upH HB.out)) : w.heap.size ≤ a8)); replace HB := Aside0.mk (below_step (upH HB.out) hb); have b3 := a9; clear hb hbox hg; obtain ⟨b4, b5, b6, b7, b8⟩ := cc5_ a2.out; obtain ⟨b9, c1, c6, c8⟩ := cf4_ a2.out; have c9 := blk_frozen a2.out 4) | ((with_reducible refine gc_ 34 rfl ?_); refine gl_ (some 15) rfl Tryd.func34 #[.agg #[.int .i64 ((yaa l0 a1).f0), .int .i64 ((yaa l0 a1).f1), .int .i64 ((yaa l0 a1).f2), .int .i64 ((yaa l0 a1).f3), .int .i64 ((yaa l0 a1).f4)]] ?_; (with_reducible refine (impl_OpOk.calls k1 ((yaa l0 a1).f0) ((yaa l0 a1).f1) ((yaa l0 a1).f2) ((yaa l0 a1).f3) ((yaa l0 a1).f4) false _ A6.out).mono ?_); rintro e w13 ⟨rfl, hb⟩; refine ⟨_, rfl, ?_⟩; replace a2 := Aside0.mk (blk_below (g := a8) (o := .cells #[.int .i64 ((yaa l0 a1).f0), .int .i64 ((yaa l0 a1).f1), .int .i64 ((yaa l0 a1).f2), .int .i64 ((yaa l0 a1).f3), .int .i64 ((yaa l0 a1).f4)] 25 (0, 0)) (by (repeat refine oneB ?_); refine blk_put (cs := #[.int .i64 ((yaa l0 a1).f0), .int .i64 ((yaa l0 a1).f1), .int .i64 ((yaa l0 a1).f2), .int .i64 ((yaa l0 a1).f3), .int .i64 0]) ?_ 4 _ rfl; refine blk_put (cs := #[.int .i64 ((yaa l0 a1).f0), .int .i64 ((yaa l0 a1).f1), .int .i64 ((yaa l0 a1).f2), .int .i64 0, .int .i64 0]) ?_ 3 _ rfl; refine blk_put (cs := #[.int .i64 ((yaa l0 a1).f0), .int .i64 ((yaa l0 a1).f1), .int .i64 0, .int .i64 0, .int .i64 0]) ?_ 2 _ rfl; refine blk_put (cs := #[.int .i64 ((yaa l0 a1).f0), .int .i64 0, .int .i64 0, .int .i64 0, .int .i64 0]) ?_ 1 _ rfl; refine blk_put (cs := #[.int .i64 0, .int .i64 0, .int .i64 0, .int .i64 0, .int .i64 0]) ?_ 0 _ rfl; exact upB a2.out) hb); replace HB := Aside0.mk (below_step (by repeat (with_reducible first | exact HB.out | apply below_alloc | apply pw_below_drewN | apply below_drew1 | refine below_set ?_ (Aside0.out ‹_›))) hb); (try clear hb)))
        go_ret
        exact ⟨by first | rfl | (simp [*, errW_none, errW_some] <;> rfl), by repeat (with_reducible first | exact HB.out | apply below_alloc | apply pw_below_drewN | apply below_drew1 | refine below_set ?_ (Aside0.out ‹_›))⟩
      ·
       rw [if_neg c5] at H
       exact absurd H (by simp)
     ·
      rw [if_neg c4] at H
      exact absurd H (by simp)
    ·
     rw [if_neg c3] at H
     have d0 : decide (a1 < (l0.length : Int)) = false := decide_eq_false c3; clear c3; obtain rfl := Option.some.inj H
     go_wp2
     go_ret
     exact ⟨by first | rfl | (simp [*, errW_none, errW_some] <;> rfl), upH HB.out⟩
end
section
open Go.Proofs.YtiihhjfdgojkeaaDoorW.PrintWords.Drawn0 renaming refl → yaa, step → yab

mutual
def impl_nameOk.j0 : Nat → ByteArray → Bool → Option (Bool)
 | 0, _, _ => none
 | k + 1, x0, x13 => if x13 = true then (some false) else (impl_nameOk.l0 k x0 (x0.size : Int) 0)
def impl_nameOk.l0 : Nat → ByteArray → Int → Int → Option (Bool)
 | 0, _, _, _ => none
 | k + 1, x0, x15, x16 => if x16 < x15 then (if 0 ≤ x16 then (if x16 < (x0.size : Int) then (if (bt x0 x16) ≥ 97 then (if (bt x0 x16) ≥ 48 then (if ((bt x0 x16) ≤ 122) then (impl_nameOk.l0 k x0 x15 (wrap64 (x16 + 1))) else (if ((bt x0 x16) ≤ 57) then (impl_nameOk.l0 k x0 x15 (wrap64 (x16 + 1))) else (some false))) else (if ((bt x0 x16) ≤ 122) then (impl_nameOk.l0 k x0 x15 (wrap64 (x16 + 1))) else (some false))) else (if (bt x0 x16) ≥ 48 then (if ((bt x0 x16) ≤ 57) then (impl_nameOk.l0 k x0 x15 (wrap64 (x16 + 1))) else (some false)) else (some false))) else (none)) else (none)) else (some true)
end
def impl_nameOk.f (k : Nat) (a0 : ByteArray) : Option (Bool) := if (a0.size : Int) < 1 then (impl_nameOk.j0 k a0 true) else (impl_nameOk.j0 k a0 (decide ((a0.size : Int) > 6)))
set_option maxHeartbeats 8000000 in
set_option maxRecDepth 100000 in
theorem impl_nameOk.calls (k : Nat) (a0 : ByteArray) (r : Bool) (w : World) (h : impl_nameOk.f k a0 = some r) :
  Calls Tryd.prog 67 #[.string a0] w fun e w' => e = .returned (.bool r) ∧ Drawn0 w w' := by
 have H : (if (a0.size : Int) < 1 then (impl_nameOk.j0 k a0 true) else (impl_nameOk.j0 k a0 (decide ((a0.size : Int) > 6)))) = some r := h; clear h; have HC2 := Aside0.mk H; clear H
 go_enter Tryd.func67, Tryd.ntmps67
 go_upto_region 1 with (fail)
 go_cut [13] (fun v13 wc => ∃ (kq : Nat) (a3 : Bool), v13 = .bool a3 ∧ Aside0 (impl_nameOk.j0 kq a0 a3 = some r) ∧ Aside0 (kq ≤ k) ∧ Drawn0 w wc)
 case first =>
  have H := HC2.out; clear HC2
  by_cases c3 : (a0.size : Int) < 1
  ·
   rw [if_pos c3] at H
   have a2 : decide ((a0.size : Int) < 1) = true := decide_eq_true c3; have a6 : decide (a0.size < 1) = true := decide_eq_true (by omega); clear c3
   (first | rw [a2] | (simp only [i64_w, i32_w]; rw [a2]) | skip)
   have H' := Aside0.mk H; clear H
   go_wp2
   go_meet
   case rel => exact ⟨_, (true), (by first | rfl | (simp; done) | (simp [*]; done)), H', ⟨by first | omega | exact Nat.le_refl _⟩, by repeat (first | exact yaa _ | apply yab)⟩
  ·
   rw [if_neg c3] at H
   have a2 : decide ((a0.size : Int) < 1) = false := decide_eq_false c3; have a6 : decide (a0.size < 1) = false := decide_eq_false (by omega); clear c3
   (first | rw [a2] | (simp only [i64_w, i32_w]; rw [a2]) | skip)
   have H' := Aside0.mk H; clear H
   go_wp2
   go_meet
   case rel => exact ⟨_, (decide ((a0.size : Int) > 6)), (by first | rfl | (simp; done) | (simp [*]; done)), H', ⟨by first | omega | exact Nat.le_refl _⟩, by repeat (first | exact yaa _ | apply yab)⟩
 case rest =>
  clear HC2; (try clear p2); (try clear c3); (try clear a2); (try clear a6); obtain ⟨kq, a3, rfl, HA, HJ1, ⟨mc1, rfl⟩⟩ := hcut
  cases kq with
  | zero => exact absurd HA.out (by simp [impl_nameOk.j0])
  | succ kj1 =>
   have H := HA.out; clear HA
   simp only [impl_nameOk.j0] at H
   by_cases c4 : a3 = true
   ·
    subst c4
    rw [if_pos rfl] at H
    obtain rfl := Option.some.inj H
    go_wp2
    go_ret
    exact ⟨by first | rfl | (simp; done) | (simp [*]; done), by repeat (first | exact yaa _ | apply yab)⟩
   ·
    replace c4 := Bool.eq_false_iff.mpr c4
    subst c4
    rw [if_neg (show ¬ (false = true) by decide)] at H
    have H' := Aside0.mk H; clear H
    go_wp2
    (try simp only [Act.put, List.setIfInBounds_toArray, List.set_cons_zero, List.set_cons_succ])
    go_loopg [16] kj1 (fun kq v16 w' => ∃ (a1 : Int), v16 = .int .i64 a1 ∧ Aside0 (impl_nameOk.l0 kq a0 (a0.size : Int) a1 = some r) ∧ Aside0 (kq ≤ kj1) ∧ Drawn0 w w')
    case atStart => exact ⟨(0), (by first | rfl | (simp; done) | (simp [*]; done)), H', ⟨Nat.le_refl _⟩, by repeat (first | exact yaa _ | apply yab)⟩
    case round =>
     clear H'; (try clear c1); (try clear p2); (try clear c3); (try clear a2); (try clear a6); (try clear c4); (try clear p2); obtain ⟨a1, rfl, HA, HK2, ⟨m2, rfl⟩⟩ := hrel
     cases gk with
     | zero => exact absurd HA.out (by simp [impl_nameOk.l0])
     | succ k2 =>
      have H := HA.out; clear HA
      simp only [impl_nameOk.l0] at H
      by_cases c5 : a1 < (a0.size : Int)
      ·
       rw [if_pos c5] at H
       have b5 : decide (a1 < (a0.size : Int)) = true := decide_eq_true c5; clear c5
       by_cases c6 : 0 ≤ a1
       ·
        rw [if_pos c6] at H
        replace c6 := decide_eq_true c6
        by_cases c7 : a1 < (a0.size : Int)
        ·
         rw [if_pos c7] at H
         replace c7 := decide_eq_true c7
         by_cases c9 : (bt a0 a1) ≥ 97
         ·
          rw [if_pos c9] at H
          have b6 : decide (97 ≤ (bt a0 a1)) = true := decide_eq_true c9; clear c9
          by_cases c12 : (bt a0 a1) ≥ 48
          ·
           rw [if_pos c12] at H
           have a7 : decide (48 ≤ (bt a0 a1)) = true := decide_eq_true c12; clear c12
           by_cases c14 : ((bt a0 a1) ≤ 122)
           ·
            rw [if_pos c14] at H
            have a8 : decide ((bt a0 a1) ≤ 122) = true := decide_eq_true c14; clear c14; have H' := Aside0.mk H; clear H; have p8 : 0 ≤ (a1 : Int) := of_decide_eq_true (by assumption); have q8 : a1 < (a0.size : Int) := of_decide_eq_true (by assumption); have hx8 := bt_at a0 a1; replace p8 := eq_true p8; replace q8 := eq_true q8; have p10 : 0 ≤ (a1 : Int) := of_decide_eq_true (by assumption); have q10 : a1 < (a0.size : Int) := of_decide_eq_true (by assumption); have a4 := bt_at a0 a1; replace p10 := eq_true p10; replace q10 := eq_true q10; have p11 : 0 ≤ (a1 : Int) := of_decide_eq_true (by assumption); have q11 : a1 < (a0.size : Int) := of_decide_eq_true (by assumption); have a5 := bt_at a0 a1; replace p11 := eq_true p11; replace q11 := eq_true q11; have p13 : 0 ≤ (a1 : Int) := of_decide_eq_true (by assumption); have q13 : a1 < (a0.size : Int) := of_decide_eq_true (by assumption); have a9 := bt_at a0 a1; replace p13 := eq_true p13; replace q13 := eq_true q13
            go_wp2
            go_roundg k2
            case measure => have := HJ1.out; have := HK2.out; omega
            case rel => exact ⟨(wrap64 (a1 + 1)), (by first | rfl | (simp; done) | (simp [*]; done)), H', ⟨by have := HJ1.out; have := HK2.out; omega⟩, by repeat (first | exact yaa _ | apply yab)⟩
           ·
            rw [if_neg c14] at H
            have a8 : decide ((bt a0 a1) ≤ 122) = false := decide_eq_false c14; clear c14
            by_cases c15 : ((bt a0 a1) ≤ 57)
            ·
             rw [if_pos c15] at H
             have b0 : decide ((bt a0 a1) ≤ 57) = true := decide_eq_true c15; clear c15; have H' := Aside0.mk H; clear H; have p8 : 0 ≤ (a1 : Int) := of_decide_eq_true (by assumption); have q8 : a1 < (a0.size : Int) := of_decide_eq_true (by assumption); have hx8 := bt_at a0 a1; replace p8 := eq_true p8; replace q8 := eq_true q8; have p10 : 0 ≤ (a1 : Int) := of_decide_eq_true (by assumption); have q10 : a1 < (a0.size : Int) := of_decide_eq_true (by assumption); have a4 := bt_at a0 a1; replace p10 := eq_true p10; replace q10 := eq_true q10; have p11 : 0 ≤ (a1 : Int) := of_decide_eq_true (by assumption); have q11 : a1 < (a0.size : Int) := of_decide_eq_true (by assumption); have a5 := bt_at a0 a1; replace p11 := eq_true p11; replace q11 := eq_true q11; have p13 : 0 ≤ (a1 : Int) := of_decide_eq_true (by assumption); have q13 : a1 < (a0.size : Int) := of_decide_eq_true (by assumption); have a9 := bt_at a0 a1; replace p13 := eq_true p13; replace q13 := eq_true q13
             go_wp2
             go_roundg k2
             case measure => have := HJ1.out; have := HK2.out; omega
             case rel => exact ⟨(wrap64 (a1 + 1)), (by first | rfl | (simp; done) | (simp [*]; done)), H', ⟨by have := HJ1.out; have := HK2.out; omega⟩, by repeat (first | exact yaa _ | apply yab)⟩
            ·
             rw [if_neg c15] at H
             have b0 : decide ((bt a0 a1) ≤ 57) = false := decide_eq_false c15; clear c15; obtain rfl := Option.some.inj H; have p8 : 0 ≤ (a1 : Int) := of_decide_eq_true (by assumption); have q8 : a1 < (a0.size : Int) := of_decide_eq_true (by assumption); have hx8 := bt_at a0 a1; replace p8 := eq_true p8; replace q8 := eq_true q8; have p10 : 0 ≤ (a1 : Int) := of_decide_eq_true (by assumption); have q10 : a1 < (a0.size : Int) := of_decide_eq_true (by assumption); have a4 := bt_at a0 a1; replace p10 := eq_true p10; replace q10 := eq_true q10; have p11 : 0 ≤ (a1 : Int) := of_decide_eq_true (by assumption); have q11 : a1 < (a0.size : Int) := of_decide_eq_true (by assumption); have a5 := bt_at a0 a1; replace p11 := eq_true p11; replace q11 := eq_true q11; have p13 : 0 ≤ (a1 : Int) := of_decide_eq_true (by assumption); have q13 : a1 < (a0.size : Int) := of_decide_eq_true (by assumption); have a9 := bt_at a0 a1; replace p13 := eq_true p13; replace q13 := eq_true q13
             go_wp2
             go_ret
             exact ⟨by first | rfl | (simp; done) | (simp [*]; done), by repeat (first | exact yaa _ | apply yab)⟩
          ·
           rw [if_neg c12] at H
           have a7 : decide (48 ≤ (bt a0 a1)) = false := decide_eq_false c12; clear c12
           by_cases c16 : ((bt a0 a1) ≤ 122)
           ·
            rw [if_pos c16] at H
            have b1 : decide ((bt a0 a1) ≤ 122) = true := decide_eq_true c16; clear c16; have H' := Aside0.mk H; clear H; have p8 : 0 ≤ (a1 : Int) := of_decide_eq_true (by assumption); have q8 : a1 < (a0.size : Int) := of_decide_eq_true (by assumption); have hx8 := bt_at a0 a1; replace p8 := eq_true p8; replace q8 := eq_true q8; have p10 : 0 ≤ (a1 : Int) := of_decide_eq_true (by assumption); have q10 : a1 < (a0.size : Int) := of_decide_eq_true (by assumption); have a4 := bt_at a0 a1; replace p10 := eq_true p10; replace q10 := eq_true q10; have p11 : 0 ≤ (a1 : Int) := of_decide_eq_true (by assumption); have q11 : a1 < (a0.size : Int) := of_decide_eq_true (by assumption); have a5 := bt_at a0 a1; replace p11 := eq_true p11; replace q11 := eq_true q11
            go_wp2
            go_roundg k2
            case measure => have := HJ1.out; have := HK2.out; omega
            case rel => exact ⟨(wrap64 (a1 + 1)), (by first | rfl | (simp; done) | (simp [*]; done)), H', ⟨by have := HJ1.out; have := HK2.out; omega⟩, by repeat (first | exact yaa _ | apply yab)⟩
           ·
            rw [if_neg c16] at H
            have b1 : decide ((bt a0 a1) ≤ 122) = false := decide_eq_false c16; clear c16; obtain rfl := Option.some.inj H; have p8 : 0 ≤ (a1 : Int) := of_decide_eq_true (by assumption); have q8 : a1 < (a0.size : Int) := of_decide_eq_true (by assumption); have hx8 := bt_at a0 a1; replace p8 := eq_true p8; replace q8 := eq_true q8; have p10 : 0 ≤ (a1 : Int) := of_decide_eq_true (by assumption); have q10 : a1 < (a0.size : Int) := of_decide_eq_true (by assumption); have a4 := bt_at a0 a1; replace p10 := eq_true p10; replace q10 := eq_true q10; have p11 : 0 ≤ (a1 : Int) := of_decide_eq_true (by assumption); have q11 : a1 < (a0.size : Int) := of_decide_eq_true (by assumption); have a5 := bt_at a0 a1; replace p11 := eq_true p11; replace q11 := eq_true q11
            go_wp2
            go_ret
            exact ⟨by first | rfl | (simp; done) | (simp [*]; done), by repeat (first | exact yaa _ | apply yab)⟩
         ·
          rw [if_neg c9] at H
          have b6 : decide (97 ≤ (bt a0 a1)) = false := decide_eq_false c9; clear c9
          by_cases c18 : (bt a0 a1) ≥ 48
          ·
           rw [if_pos c18] at H
           have b2 : decide (48 ≤ (bt a0 a1)) = true := decide_eq_true c18; clear c18
           by_cases c20 : ((bt a0 a1) ≤ 57)
           ·
            rw [if_pos c20] at H
            have b3 : decide ((bt a0 a1) ≤ 57) = true := decide_eq_true c20; clear c20; have H' := Aside0.mk H; clear H; have p8 : 0 ≤ (a1 : Int) := of_decide_eq_true (by assumption); have q8 : a1 < (a0.size : Int) := of_decide_eq_true (by assumption); have hx8 := bt_at a0 a1; replace p8 := eq_true p8; replace q8 := eq_true q8; have p17 : 0 ≤ (a1 : Int) := of_decide_eq_true (by assumption); have q17 : a1 < (a0.size : Int) := of_decide_eq_true (by assumption); have b4 := bt_at a0 a1; replace p17 := eq_true p17; replace q17 := eq_true q17; have p19 : 0 ≤ (a1 : Int) := of_decide_eq_true (by assumption); have q19 : a1 < (a0.size : Int) := of_decide_eq_true (by assumption); have b7 := bt_at a0 a1; replace p19 := eq_true p19; replace q19 := eq_true q19
            go_wp2
            go_roundg k2
            case measure => have := HJ1.out; have := HK2.out; omega
            case rel => exact ⟨(wrap64 (a1 + 1)), (by first | rfl | (simp; done) | (simp [*]; done)), H', ⟨by have := HJ1.out; have := HK2.out; omega⟩, by repeat (first | exact yaa _ | apply yab)⟩
           ·
            rw [if_neg c20] at H
            have b3 : decide ((bt a0 a1) ≤ 57) = false := decide_eq_false c20; clear c20; obtain rfl := Option.some.inj H; have p8 : 0 ≤ (a1 : Int) := of_decide_eq_true (by assumption); have q8 : a1 < (a0.size : Int) := of_decide_eq_true (by assumption); have hx8 := bt_at a0 a1; replace p8 := eq_true p8; replace q8 := eq_true q8; have p17 : 0 ≤ (a1 : Int) := of_decide_eq_true (by assumption); have q17 : a1 < (a0.size : Int) := of_decide_eq_true (by assumption); have b4 := bt_at a0 a1; replace p17 := eq_true p17; replace q17 := eq_true q17; have p19 : 0 ≤ (a1 : Int) := of_decide_eq_true (by assumption); have q19 : a1 < (a0.size : Int) := of_decide_eq_true (by assumption); have b7 := bt_at a0 a1; replace p19 := eq_true p19; replace q19 := eq_true q19
            go_wp2
            go_ret
            exact ⟨by first | rfl | (simp; done) | (simp [*]; done), by repeat (first | exact yaa _ | apply yab)⟩
          ·
           rw [if_neg c18] at H
           have b2 : decide (48 ≤ (bt a0 a1)) = false := decide_eq_false c18; clear c18; obtain rfl := Option.some.inj H; have p8 : 0 ≤ (a1 : Int) := of_decide_eq_true (by assumption); have q8 : a1 < (a0.size : Int) := of_decide_eq_true (by assumption); have hx8 := bt_at a0 a1; replace p8 := eq_true p8; replace q8 := eq_true q8; have p17 : 0 ≤ (a1 : Int) := of_decide_eq_true (by assumption); have q17 : a1 < (a0.size : Int) := of_decide_eq_true (by assumption); have b4 := bt_at a0 a1; replace p17 := eq_true p17; replace q17 := eq_true q17
           go_wp2
           go_ret
           exact ⟨by first | rfl | (simp; done) | (simp [*]; done), by repeat (first | exact yaa _ | apply yab)⟩
        ·
         rw [if_neg c7] at H
         exact absurd H (by simp)
       ·
        rw [if_neg c6] at H
        exact absurd H (by simp)
      ·
       rw [if_neg c5] at H
       have b5 : decide (a1 < (a0.size : Int)) = false := decide_eq_false c5; clear c5; obtain rfl := Option.some.inj H
       go_wp2
       go_ret
       exact ⟨by first | rfl | (simp; done) | (simp [*]; done), by repeat (first | exact yaa _ | apply yab)⟩
end
section
open Go.Proofs.YtiihhjfdgojkeaaDoorW.PrintWords.Aside0 renaming mk → yaa

def impl_AskOk.f (k : Nat) (l0_0 : List (S25)) (a0_1 : ByteArray) (a0_2 : Int) : Option (Bool) := (impl_opsOk.f k l0_0).bind fun t102 => (if t102 = true then ((impl_nameOk.f k a0_1).bind fun t103 => (if t103 = true then ((impl_within.f a0_2 0 9999).bind fun t104 => (some t104)) else (some false))) else (some false))
set_option maxHeartbeats 8000000 in
set_option maxRecDepth 100000 in
theorem impl_AskOk.calls (k : Nat) (A0_0 : Option Addr) (c0_0 : Nat) (l0_0 : List (S25)) (a0_1 : ByteArray) (a0_2 : Int) (r : Bool) (w : World) (hr0_0 : Kd.C k25 w A0_0 l0_0.length l0_0) (hc0_0 : l0_0.length ≤ c0_0) (h : impl_AskOk.f k l0_0 a0_1 a0_2 = some r) :
  Calls Tryd.prog 25 #[.agg #[.slice A0_0 l0_0.length c0_0, .string a0_1, .int .i64 a0_2]] w fun e w' => e = .returned (.bool r) ∧ Below w.heap.size w w' := by
 have hu35 := Tryd.underlying35; have HR0_0 := yaa hr0_0; have HC0_0 := yaa hc0_0; clear hr0_0 hc0_0; have HB := yaa (Below.refl w.heap.size w); have H : ((impl_opsOk.f k l0_0).bind fun a9 => (if a9 = true then ((impl_nameOk.f k a0_1).bind fun b0 => (if b0 = true then ((impl_within.f a0_2 0 9999).bind fun b1 => (some b1)) else (some false))) else (some false))) = some r := h; clear h; obtain ⟨a9, A2, H⟩ := bindA H; (try dsimp only at H)
 by_cases c3 : a9 = true
 ·
  subst c3
  rw [if_pos rfl] at H
  obtain ⟨b0, A4, H⟩ := bindA H; (try dsimp only at H)
  by_cases c5 : b0 = true
  ·
   subst c5
   rw [if_pos rfl] at H
   obtain ⟨b1, A6, H⟩ := bindA H; (try dsimp only at H); obtain rfl := Option.some.inj H
   go_enter Tryd.func25, Tryd.ntmps25
   go_wp2_with (first | ((with_reducible refine gd_ 1 rfl ?_); refine bx_ 1 rfl #[.slice A0_0 l0_0.length c0_0, .string a0_1, .int .i64 a0_2] 35 ?_; intro a4 hg w7 hbox hb; have a3 := yaa (hbox); have a5 := yaa ((by rw [hg]; exact (below_size (upH HB.out)) : w.heap.size ≤ a4)); replace HB := yaa (below_step (upH HB.out) hb); have a8 := a5; clear hb hbox hg; obtain ⟨d8, d9, e0⟩ := cc3_ a3.out; obtain ⟨e1, e2⟩ := cf2_ a3.out; have e3 := blk_frozen a3.out 2) | ((with_reducible refine gc_ 66 rfl ?_); refine gl_ (some 5) rfl Tryd.func66 #[.slice A0_0 l0_0.length c0_0] ?_; (with_reducible refine (impl_opsOk.calls k _ _ l0_0 true _ ?side1 ?side2 A2.out).mono ?_); (case side1 => repeat (first | exact (Kd.C_below HR0_0.out HB.out) | (with_reducible refine Kd.C_alloc ?_ _) | (with_reducible refine Kd.C_drewN ?_ _) | (with_reducible refine Kd.C_drew ?_))); (case side2 => exact HC0_0.out); rintro e w9 ⟨rfl, hb⟩; refine ⟨_, rfl, ?_⟩; replace a3 := yaa (blk_below (upB a3.out) hb); replace HB := yaa (below_step (by repeat (with_reducible first | exact HB.out | apply below_alloc | apply pw_below_drewN | apply below_drew1 | refine below_set ?_ (Aside0.out ‹_›))) hb); (try clear hb); obtain ⟨b2, b3, b4⟩ := cc3_ a3.out; obtain ⟨b5, b6⟩ := cf2_ a3.out; have b7 := blk_frozen a3.out 2) | (go_at_call 67; (with_reducible refine (impl_nameOk.calls k a0_1 true _ A4.out).mono ?_); rintro e w' ⟨rfl, ⟨nd, rfl⟩⟩) | (go_at_call 68; (with_reducible refine (impl_within.calls a0_2 0 9999 b1 _ A6.out).mono ?_); rintro e w' ⟨rfl, ⟨nd, rfl⟩⟩))
   go_ret
   exact ⟨by first | rfl | (simp [*, errW_none, errW_some] <;> rfl), by repeat (with_reducible first | exact HB.out | apply below_alloc | apply pw_below_drewN | apply below_drew1 | refine below_set ?_ (Aside0.out ‹_›))⟩
  ·
   replace c5 := Bool.eq_false_iff.mpr c5
   subst c5
   rw [if_neg (show ¬ (false = true) by decide)] at H
   obtain rfl := Option.some.inj H
   go_enter Tryd.func25, Tryd.ntmps25
   go_wp2_with (first | ((with_reducible refine gd_ 1 rfl ?_); refine bx_ 1 rfl #[.slice A0_0 l0_0.length c0_0, .string a0_1, .int .i64 a0_2] 35 ?_; intro a4 hg w11 hbox hb; have a3 := yaa (hbox); have a5 := yaa ((by rw [hg]; exact (below_size (upH HB.out)) : w.heap.size ≤ a4)); replace HB := yaa (below_step (upH HB.out) hb); have a8 := a5; clear hb hbox hg; obtain ⟨b8, b9, c0⟩ := cc3_ a3.out; obtain ⟨c1, c2⟩ := cf2_ a3.out; have c4 := blk_frozen a3.out 2) | ((with_reducible refine gc_ 66 rfl ?_); refine gl_ (some 5) rfl Tryd.func66 #[.slice A0_0 l0_0.length c0_0] ?_; (with_reducible refine (impl_opsOk.calls k _ _ l0_0 true _ ?side1 ?side2 A2.out).mono ?_); (case side1 => repeat (first | exact (Kd.C_below HR0_0.out HB.out) | (with_reducible refine Kd.C_alloc ?_ _) | (with_reducible refine Kd.C_drewN ?_ _) | (with_reducible refine Kd.C_drew ?_))); (case side2 => exact HC0_0.out); rintro e w13 ⟨rfl, hb⟩; refine ⟨_, rfl, ?_⟩; replace a3 := yaa (blk_below (upB a3.out) hb); replace HB := yaa (below_step (by repeat (with_reducible first | exact HB.out | apply below_alloc | apply pw_below_drewN | apply below_drew1 | refine below_set ?_ (Aside0.out ‹_›))) hb); (try clear hb); obtain ⟨c6, c7, c8⟩ := cc3_ a3.out; obtain ⟨c9, d0⟩ := cf2_ a3.out; have d1 := blk_frozen a3.out 2) | (go_at_call 67; (with_reducible refine (impl_nameOk.calls k a0_1 false _ A4.out).mono ?_); rintro e w' ⟨rfl, ⟨nd, rfl⟩⟩))
   go_ret
   exact ⟨by first | rfl | (simp [*, errW_none, errW_some] <;> rfl), by repeat (with_reducible first | exact HB.out | apply below_alloc | apply pw_below_drewN | apply below_drew1 | refine below_set ?_ (Aside0.out ‹_›))⟩
 ·
  replace c3 := Bool.eq_false_iff.mpr c3
  subst c3
  rw [if_neg (show ¬ (false = true) by decide)] at H
  obtain rfl := Option.some.inj H
  go_enter Tryd.func25, Tryd.ntmps25
  go_wp2_with (first | ((with_reducible refine gd_ 1 rfl ?_); refine bx_ 1 rfl #[.slice A0_0 l0_0.length c0_0, .string a0_1, .int .i64 a0_2] 35 ?_; intro a4 hg w15 hbox hb; have a3 := yaa (hbox); have a5 := yaa ((by rw [hg]; exact (below_size (upH HB.out)) : w.heap.size ≤ a4)); replace HB := yaa (below_step (upH HB.out) hb); have a8 := a5; clear hb hbox hg; obtain ⟨d2, d3, d4⟩ := cc3_ a3.out; obtain ⟨d5, d6⟩ := cf2_ a3.out; have d7 := blk_frozen a3.out 2) | ((with_reducible refine gc_ 66 rfl ?_); refine gl_ (some 5) rfl Tryd.func66 #[.slice A0_0 l0_0.length c0_0] ?_; (with_reducible refine (impl_opsOk.calls k _ _ l0_0 false _ ?side1 ?side2 A2.out).mono ?_); (case side1 => repeat (first | exact (Kd.C_below HR0_0.out HB.out) | (with_reducible refine Kd.C_alloc ?_ _) | (with_reducible refine Kd.C_drewN ?_ _) | (with_reducible refine Kd.C_drew ?_))); (case side2 => exact HC0_0.out); rintro e w17 ⟨rfl, hb⟩; refine ⟨_, rfl, ?_⟩; replace a3 := yaa (blk_below (upB a3.out) hb); replace HB := yaa (below_step (by repeat (with_reducible first | exact HB.out | apply below_alloc | apply pw_below_drewN | apply below_drew1 | refine below_set ?_ (Aside0.out ‹_›))) hb); (try clear hb)))
  go_ret
  exact ⟨by first | rfl | (simp [*, errW_none, errW_some] <;> rfl), by repeat (with_reducible first | exact HB.out | apply below_alloc | apply pw_below_drewN | apply below_drew1 | refine below_set ?_ (Aside0.out ‹_›))⟩
end
section
/-- A state of type 144 at block g of W; what its slices lead to came in by w0. -/
def IsS144 (w0 W : World) (g : Nat) (f0 : List Int) (f1 : Int) : Prop := ∃ A0 c0, W.heap[g]? = some (.cells #[.slice A0 f0.length c0, .int .i64 f1] 144 (0, 0)) ∧ w0.heap.size ≤ g ∧ Kd.C (Kd.int .u8) w0 A0 f0.length f0
theorem IsS144.grown {w0 W : World} {g : Nat} {f0 : List Int} {f1 : Int} {W1 : World} {row : Option Nat} (h : IsS144 w0 W g f0 f1) (hw : W.grownBy W1 row) (hne : some g ≠ row) : IsS144 w0 W1 g f0 f1 := by
  obtain ⟨A0, c0, hb, hg, hr0⟩ := h
  exact ⟨A0, c0, blk_grown hb hw hne, hg, hr0⟩
theorem IsS144.kept {w0 W : World} {g : Nat} {f0 : List Int} {f1 : Int} {W1 : World} {S : Nat → Prop} (h : IsS144 w0 W g f0 f1) (hk : Kept W W1 S) (hne : ¬ S g) : IsS144 w0 W1 g f0 f1 := by
  obtain ⟨A0, c0, hb, hg, hr0⟩ := h
  exact ⟨A0, c0, blk_kept hb hk hne, hg, hr0⟩
theorem IsS144.below {w0 W : World} {g : Nat} {f0 : List Int} {f1 : Int} {W1 : World} (h : IsS144 w0 W g f0 f1) (hw : Below W.heap.size W W1) : IsS144 w0 W1 g f0 f1 := h.grown (grown_of_below hw none) (by simp)
theorem IsS144.alloc {w0 W : World} {g : Nat} {f0 : List Int} {f1 : Int} (h : IsS144 w0 W g f0 f1) (o : Obj) : IsS144 w0 (W.alloc o) g f0 f1 := h.below (below_alloc (Below.refl _ _) o)
theorem IsS144.drewN {w0 W : World} {g : Nat} {f0 : List Int} {f1 : Int} (h : IsS144 w0 W g f0 f1) (m : Nat) : IsS144 w0 (W.drewN m) g f0 f1 := h
theorem IsS144.drew {w0 W : World} {g : Nat} {f0 : List Int} {f1 : Int} (h : IsS144 w0 W g f0 f1) : IsS144 w0 W.drew g f0 f1 := h
theorem IsS144.at_ {w0 W : World} {g : Nat} {f0 : List Int} {f1 : Int} {w' : World} {m : Nat} (hq : W.drewN m = w') (h : IsS144 w0 W g f0 f1) : IsS144 w0 w' g f0 f1 := by subst hq; exact IsS144.drewN h m
theorem IsS144.apart {w0 W : World} {g : Nat} {f0 : List Int} {f1 : Int} {α : Type} {d : Kd α} {e : Nat} {base : Nat} {ok : Nat → Prop} {v : Value} {xs : List α} (h : IsS144 w0 W g f0 f1) (ho : d.R e W base ok v xs) (ht : ∀ q, q ∈ e :: d.E → q ≠ 144) : d.R e W base (fun k => ok k ∧ k ≠ g) v xs := by
  obtain ⟨A0, c0, hb, hg, hr0⟩ := h
  exact Kd.R_types ho hb ht
theorem IsS144.own_ne {w0 W : World} {g : Nat} {f0 : List Int} {f1 : Int} {α : Type} {d : Kd α} {e : Nat} {base : Nat} {ok : Nat → Prop} {v : Value} {xs : List α} (h : IsS144 w0 W g f0 f1) (ho : d.R e W base ok v xs) (ht : e ≠ 144) : some g ≠ v.ownBlock := by
  obtain ⟨A0, c0, hb, hg, hr0⟩ := h
  exact Kd.R_ne ho hb ht
theorem IsS144.lt {w0 W : World} {g : Nat} {f0 : List Int} {f1 : Int} (h : IsS144 w0 W g f0 f1) : g < W.heap.size := by
  obtain ⟨A0, c0, hb, hg, hr0⟩ := h
  exact blk_lt hb
theorem IsS144.ge {w0 W : World} {g : Nat} {f0 : List Int} {f1 : Int} (h : IsS144 w0 W g f0 f1) : w0.heap.size ≤ g := by
  obtain ⟨A0, c0, hb, hg, hr0⟩ := h
  exact hg
theorem IsS144.ne_blk {w0 W : World} {g : Nat} {f0 : List Int} {f1 : Int} {a : Nat} {cs : Array Value} {t : TypeId} {fr : Nat × Nat} (h : IsS144 w0 W g f0 f1) (hb2 : W.heap[a]? = some (.cells cs t fr)) (ht : t ≠ 144) : g ≠ a := by
  obtain ⟨A0, c0, hb, hg, hr0⟩ := h
  rintro rfl
  rw [hb] at hb2
  injection hb2 with hb2
  injection hb2 with _ ht2
  exact ht ht2.symm
theorem IsS144.far {w0 W : World} {g : Nat} {f0 : List Int} {f1 : Int} {p : Addr} (h : IsS144 w0 W g f0 f1) (hne : g ≠ p.block) (u : Value) : IsS144 w0 (W.setCell p u) g f0 f1 := by
  obtain ⟨A0, c0, hb, hg, hr0⟩ := h
  exact ⟨A0, c0, blk_far hb hne u, hg, hr0⟩
theorem cellS144_0 {W : World} {g : Nat} {A0 : Option Addr} {c0 : Nat} {f0 : List Int} {f1 : Int} (h : W.heap[g]? = some (.cells #[.slice A0 f0.length c0, .int .i64 f1] 144 (0, 0))) : W.cell? ⟨g, 0, none⟩ = some (.slice A0 f0.length c0) := (blk_cell h 0).trans rfl
theorem cellS144_1 {W : World} {g : Nat} {A0 : Option Addr} {c0 : Nat} {f0 : List Int} {f1 : Int} (h : W.heap[g]? = some (.cells #[.slice A0 f0.length c0, .int .i64 f1] 144 (0, 0))) : W.cell? ⟨g, 1, none⟩ = some (.int .i64 f1) := (blk_cell h 1).trans rfl
theorem IsS144.set_1 {w0 W : World} {g : Nat} {f0 : List Int} {f1 : Int} (h : IsS144 w0 W g f0 f1) (x : Int) : IsS144 w0 (W.setCell ⟨g, 1, none⟩ (.int .i64 x)) g f0 x := by
  obtain ⟨A0, c0, hb, hg, hr0⟩ := h
  exact ⟨A0, c0, by simpa using blk_set hb 1 (.int .i64 x), hg, hr0⟩
theorem IsS144.new (w0 W : World) (A0 : Option Addr) (c0 : Nat) (f0 : List Int) (f1 : Int) (hB : Below w0.heap.size w0 W) (hr0 : Kd.C (Kd.int .u8) w0 A0 f0.length f0) : IsS144 w0 (W.alloc (.cells #[.slice A0 f0.length c0, .int .i64 f1] 144)) W.heap.size f0 f1 := ⟨A0, c0, by simpa using heap_alloc_new W _, hB.size, hr0⟩

def spec_l20Rd_pick.j0 : Nat → Int → Bool → List Int → Int → Option (Int × Int)
 | 0, _, _, _, _ => none
 | k + 1, x1, x24, x1000, x1001 => if x24 = true then (some (0, x1001)) else (if (wrap64 (x1001 - 1)) < (x1000.length : Int) then (if 0 ≤ (wrap64 (x1001 - 1)) then (if x1 = 0 then (none) else (some (Int.tmod (wrap64 (rd x1000 (wrap64 (x1001 - 1)))) x1, x1001))) else (none)) else (if (x1000.length : Int) = 0 then (none) else (if 0 ≤ (Int.tmod (wrap64 (x1001 - 1)) (x1000.length : Int)) then (if (Int.tmod (wrap64 (x1001 - 1)) (x1000.length : Int)) < (x1000.length : Int) then (if 0 ≤ (Int.tmod (wrap64 ((wrap64 ((wrap64 (x1001 - 1)) * 7)) + 3)) (x1000.length : Int)) then (if (Int.tmod (wrap64 ((wrap64 ((wrap64 (x1001 - 1)) * 7)) + 3)) (x1000.length : Int)) < (x1000.length : Int) then (if x1 = 0 then (none) else (some (Int.tmod (Go.bits .xor .i64 (wrap64 ((wrap64 ((wrap64 ((wrap64 ((wrap64 (rd x1000 (Int.tmod (wrap64 (x1001 - 1)) (x1000.length : Int)))) * 131)) + (wrap64 ((wrap64 (rd x1000 (Int.tmod (wrap64 ((wrap64 ((wrap64 (x1001 - 1)) * 7)) + 3)) (x1000.length : Int)))) * 1117)))) + (wrap64 ((wrap64 (x1001 - 1)) * 29)))) + (wrap64 ((wrap64 (Int.tdiv (wrap64 (x1001 - 1)) (x1000.length : Int))) * 53)))) (wrap64 (Int.tdiv (wrap64 ((wrap64 ((wrap64 ((wrap64 ((wrap64 (rd x1000 (Int.tmod (wrap64 (x1001 - 1)) (x1000.length : Int)))) * 131)) + (wrap64 ((wrap64 (rd x1000 (Int.tmod (wrap64 ((wrap64 ((wrap64 (x1001 - 1)) * 7)) + 3)) (x1000.length : Int)))) * 1117)))) + (wrap64 ((wrap64 (x1001 - 1)) * 29)))) + (wrap64 ((wrap64 (Int.tdiv (wrap64 (x1001 - 1)) (x1000.length : Int))) * 53)))) 64))) x1, x1001))) else (none)) else (none)) else (none)) else (none))))
def spec_l20Rd_pick.f (k : Nat) (s0_0 : List Int) (s0_1 : Int) (a1 : Int) : Option (Int × Int) := if a1 < 1 then (spec_l20Rd_pick.j0 k a1 true s0_0 (wrap64 (s0_1 + 1))) else (spec_l20Rd_pick.j0 k a1 ((s0_0.length : Int) == 0) s0_0 (wrap64 (s0_1 + 1)))
set_option maxHeartbeats 8000000 in
set_option maxRecDepth 100000 in
theorem spec_l20Rd_pick.calls (k : Nat) (g : Nat) (s0_0 : List Int) (s0_1 : Int) (a1 : Int) (r1 : Int) (r2 : Int) (w0 w : World) (hI : IsS144 w0 w g s0_0 s0_1) (hB : Below w0.heap.size w0 w) (h : spec_l20Rd_pick.f k s0_0 s0_1 a1 = some (r1, r2)) :
  Calls Tryd.prog 79 #[.pointer (some ⟨g, 0, none⟩), .int .i64 a1] w fun e w' => e = .returned (.int .i64 r1) ∧ IsS144 w0 w' g s0_0 r2 ∧ Below w0.heap.size w0 w' ∧ KeepBut w w' g none := by
 have HI0 := Aside0.mk hI; have HK := Aside0.mk (KeepBut.refl w g none); have HL := Aside0.mk hB.size; clear hI; have HW0 := Aside0.mk hB.size; have HB := Aside0.mk hB; clear hB; have H : (if a1 < 1 then (spec_l20Rd_pick.j0 k a1 true s0_0 (wrap64 (s0_1 + 1))) else (spec_l20Rd_pick.j0 k a1 ((s0_0.length : Int) == 0) s0_0 (wrap64 (s0_1 + 1)))) = some (r1, r2) := h; clear h; have HC3 := Aside0.mk H; clear H; obtain ⟨d1, d2, HGz4, hgz4, HSz4_0⟩ := HI0.out; have b0 := cellS144_0 HGz4; have b1 := cellS144_1 HGz4; have b2 := blk_frozen HGz4 1; clear HGz4 hgz4
 go_enter Tryd.func79, Tryd.ntmps79
 go_upto_region 2 with (fail)
 repeat (go_quiet (fail); go_upto_region 2 with (fail))
 go_cut [24] (fun v24 wc => ∃ (kq : Nat) (a5 : Bool), v24 = .bool a5 ∧ Aside0 (spec_l20Rd_pick.j0 kq a1 a5 s0_0 (wrap64 (s0_1 + 1)) = some (r1, r2)) ∧ Aside0 (kq ≤ k) ∧ Aside0 (IsS144 w0 wc g s0_0 (wrap64 (s0_1 + 1))) ∧ Aside0 (KeepBut w wc g none) ∧ Aside0 (Below w0.heap.size w0 wc))
 case first =>
  have H := HC3.out; clear HC3
  by_cases c5 : a1 < 1
  ·
   rw [if_pos c5] at H
   have a9 : decide (a1 < 1) = true := decide_eq_true c5; clear c5
   (first | rw [a9] | (simp only [i64_w, i32_w]; rw [a9]) | skip)
   have H' := Aside0.mk H; clear H
   go_wp2
   repeat (go_quiet (fail); try go_wp2)
   go_meet
   case rel => exact ⟨_, (true), (by first | rfl | (simp; done) | (simp [*]; done)), H', ⟨by first | omega | exact Nat.le_refl _⟩, ⟨by repeat (with_reducible first | exact HI0.out | apply IsS144.alloc | apply IsS144.drewN | apply IsS144.drew | apply IsS144.set_1)⟩, ⟨by repeat (with_reducible first | exact HK.out | apply KeepBut.set_ | apply keep_drewN | apply keep_drew | apply keep_alloc)⟩, ⟨by repeat (with_reducible first | exact HB.out | apply below_alloc | apply pw_below_drewN | apply below_drew1 | refine below_set ?_ (IsS144.ge HI0.out))⟩⟩
  ·
   rw [if_neg c5] at H
   have a9 : decide (a1 < 1) = false := decide_eq_false c5; clear c5
   (first | rw [a9] | (simp only [i64_w, i32_w]; rw [a9]) | skip)
   have H' := Aside0.mk H; clear H; obtain ⟨d3, d4, HGz6, hgz6, HSz6_0⟩ := HI0.out; have b3 := cellS144_0 HGz6; have b4 := cellS144_1 HGz6; have b5 := blk_frozen HGz6 1; clear HGz6 hgz6
   go_wp2
   repeat (go_quiet (fail); try go_wp2)
   go_meet
   case rel => exact ⟨_, (((s0_0.length : Int) == 0)), (by first | rfl | (simp; done) | (simp [*]; done)), H', ⟨by first | omega | exact Nat.le_refl _⟩, ⟨by repeat (with_reducible first | exact HI0.out | apply IsS144.alloc | apply IsS144.drewN | apply IsS144.drew | apply IsS144.set_1)⟩, ⟨by repeat (with_reducible first | exact HK.out | apply KeepBut.set_ | apply keep_drewN | apply keep_drew | apply keep_alloc)⟩, ⟨by repeat (with_reducible first | exact HB.out | apply below_alloc | apply pw_below_drewN | apply below_drew1 | refine below_set ?_ (IsS144.ge HI0.out))⟩⟩
 case rest =>
  clear HC3; (try clear p2); (try clear c5); (try clear a9); (try clear p6); (try clear b0); (try clear b1); (try clear b3); (try clear b4); (try clear b2); (try clear b5); obtain ⟨kq, a5, rfl, HA, HJ2, HI0, HK, HB⟩ := hcut
  cases kq with
  | zero => exact absurd HA.out (by simp [spec_l20Rd_pick.j0])
  | succ kj2 =>
   have H := HA.out; clear HA
   simp only [spec_l20Rd_pick.j0] at H
   by_cases c7 : a5 = true
   ·
    subst c7
    rw [if_pos rfl] at H
    simp only [Option.some.injEq, Prod.mk.injEq] at H
    obtain ⟨rfl, rfl⟩ := H
    go_wp2
    repeat (go_quiet (fail); try go_wp2)
    go_ret
    exact ⟨by first | rfl | (simp [*, errW_none, errW_some] <;> rfl), by repeat (with_reducible first | exact HI0.out | apply IsS144.alloc | apply IsS144.drewN | apply IsS144.drew | apply IsS144.set_1), by repeat (with_reducible first | exact HB.out | apply below_alloc | apply pw_below_drewN | apply below_drew1 | refine below_set ?_ (IsS144.ge HI0.out)), by repeat (with_reducible first | exact HK.out | apply KeepBut.set_ | apply keep_drewN | apply keep_drew | apply keep_alloc)⟩
   ·
    replace c7 := Bool.eq_false_iff.mpr c7
    subst c7
    rw [if_neg (show ¬ (false = true) by decide)] at H
    by_cases c8 : (wrap64 ((wrap64 (s0_1 + 1)) - 1)) < (s0_0.length : Int)
    ·
     rw [if_pos c8] at H
     have b6 : decide ((wrap64 ((wrap64 (s0_1 + 1)) - 1)) < (s0_0.length : Int)) = true := decide_eq_true c8; clear c8; obtain ⟨ji9, hji9⟩ : ∃ j_ : Int, (wrap64 ((wrap64 (s0_1 + 1)) - 1)) = j_ := ⟨_, rfl⟩
     replace H : (if 0 ≤ (ji9) then (if a1 = 0 then (none) else (some (Int.tmod (wrap64 (rd s0_0 (ji9))) a1, (wrap64 (s0_1 + 1))))) else (none)) = some (r1, r2) := by first | (rw [hji9] at H; exact H) | (simp only [hji9] at H ⊢; exact H)
     (try rw [hji9] at b6)
     have hji9w : (IntKind.i64.wrap ((wrap64 (s0_1 + 1)) - 1)) = ji9 := (i64_w _).trans hji9
     by_cases c10 : 0 ≤ (ji9)
     ·
      rw [if_pos c10] at H
      replace c10 := decide_eq_true c10
      by_cases c11 : a1 = 0
      ·
       rw [if_pos c11] at H
       exact absurd H (by simp)
      ·
       rw [if_neg c11] at H
       have d8 := beq_eq_false_iff_ne.mpr c11; have d9 := bne_iff_ne.mpr c11
       simp only [Option.some.injEq, Prod.mk.injEq] at H
       obtain ⟨rfl, rfl⟩ := H; obtain ⟨b7, b8, HGz12, hgz12, HSz12_0⟩ := HI0.out; have b9 := cellS144_0 HGz12; have c1 := cellS144_1 HGz12; have c2 := blk_frozen HGz12 1; clear HGz12 hgz12; have p101 : 0 ≤ ((ji9) : Int) := of_decide_eq_true (by assumption); have q101 : (ji9) < (s0_0.length : Int) := of_decide_eq_true (by assumption); obtain ⟨ad101, d5, a6⟩ := Kd.at_int HSz12_0 (ji9) p101 q101
       cases d5
       replace a6 := pw_cell_below HB.out a6; replace p101 := eq_true p101; replace q101 := eq_true q101
       go_wp2
       repeat (go_quiet (fail); try go_wp2)
       go_ret
       exact ⟨by first | rfl | (simp [errW_none, errW_some] <;> rfl) | (simp only [← hji9]; first | rfl | (simp [errW_none, errW_some] <;> rfl)) | (simp [*, errW_none, errW_some] <;> rfl), by repeat (with_reducible first | exact HI0.out | apply IsS144.alloc | apply IsS144.drewN | apply IsS144.drew | apply IsS144.set_1), by repeat (with_reducible first | exact HB.out | apply below_alloc | apply pw_below_drewN | apply below_drew1 | refine below_set ?_ (IsS144.ge HI0.out)), by repeat (with_reducible first | exact HK.out | apply KeepBut.set_ | apply keep_drewN | apply keep_drew | apply keep_alloc)⟩
     ·
      rw [if_neg c10] at H
      exact absurd H (by simp)
    ·
     rw [if_neg c8] at H
     have b6 : decide ((wrap64 ((wrap64 (s0_1 + 1)) - 1)) < (s0_0.length : Int)) = false := decide_eq_false c8; clear c8
     by_cases c13 : (s0_0.length : Int) = 0
     ·
      rw [if_pos c13] at H
      exact absurd H (by simp)
     ·
      rw [if_neg c13] at H
      have e0 := beq_eq_false_iff_ne.mpr c13; have e1 := bne_iff_ne.mpr c13; have e2 : ¬ (s0_0 = []) := fun h_ => c13 (by rw [h_]; rfl); obtain ⟨ji14, hji14⟩ : ∃ j_ : Int, (Int.tmod (wrap64 ((wrap64 (s0_1 + 1)) - 1)) (s0_0.length : Int)) = j_ := ⟨_, rfl⟩
      replace H : (if 0 ≤ (ji14) then (if (ji14) < (s0_0.length : Int) then (if 0 ≤ (Int.tmod (wrap64 ((wrap64 ((wrap64 ((wrap64 (s0_1 + 1)) - 1)) * 7)) + 3)) (s0_0.length : Int)) then (if (Int.tmod (wrap64 ((wrap64 ((wrap64 ((wrap64 (s0_1 + 1)) - 1)) * 7)) + 3)) (s0_0.length : Int)) < (s0_0.length : Int) then (if a1 = 0 then (none) else (some (Int.tmod (Go.bits .xor .i64 (wrap64 ((wrap64 ((wrap64 ((wrap64 ((wrap64 (rd s0_0 (ji14))) * 131)) + (wrap64 ((wrap64 (rd s0_0 (Int.tmod (wrap64 ((wrap64 ((wrap64 ((wrap64 (s0_1 + 1)) - 1)) * 7)) + 3)) (s0_0.length : Int)))) * 1117)))) + (wrap64 ((wrap64 ((wrap64 (s0_1 + 1)) - 1)) * 29)))) + (wrap64 ((wrap64 (Int.tdiv (wrap64 ((wrap64 (s0_1 + 1)) - 1)) (s0_0.length : Int))) * 53)))) (wrap64 (Int.tdiv (wrap64 ((wrap64 ((wrap64 ((wrap64 ((wrap64 (rd s0_0 (ji14))) * 131)) + (wrap64 ((wrap64 (rd s0_0 (Int.tmod (wrap64 ((wrap64 ((wrap64 ((wrap64 (s0_1 + 1)) - 1)) * 7)) + 3)) (s0_0.length : Int)))) * 1117)))) + (wrap64 ((wrap64 ((wrap64 (s0_1 + 1)) - 1)) * 29)))) + (wrap64 ((wrap64 (Int.tdiv (wrap64 ((wrap64 (s0_1 + 1)) - 1)) (s0_0.length : Int))) * 53)))) 64))) a1, (wrap64 (s0_1 + 1))))) else (none)) else (none)) else (none)) else (none)) = some (r1, r2) := by first | (rw [hji14] at H; exact H) | (simp only [hji14] at H ⊢; exact H)
      by_cases c15 : 0 ≤ (ji14)
      ·
       rw [if_pos c15] at H
       replace c15 := decide_eq_true c15
       by_cases c16 : (ji14) < (s0_0.length : Int)
       ·
        rw [if_pos c16] at H
        replace c16 := decide_eq_true c16; obtain ⟨ji17, hji17⟩ : ∃ j_ : Int, (Int.tmod (wrap64 ((wrap64 ((wrap64 ((wrap64 (s0_1 + 1)) - 1)) * 7)) + 3)) (s0_0.length : Int)) = j_ := ⟨_, rfl⟩
        replace H : (if 0 ≤ (ji17) then (if (ji17) < (s0_0.length : Int) then (if a1 = 0 then (none) else (some (Int.tmod (Go.bits .xor .i64 (wrap64 ((wrap64 ((wrap64 ((wrap64 ((wrap64 (rd s0_0 (ji14))) * 131)) + (wrap64 ((wrap64 (rd s0_0 (ji17))) * 1117)))) + (wrap64 ((wrap64 ((wrap64 (s0_1 + 1)) - 1)) * 29)))) + (wrap64 ((wrap64 (Int.tdiv (wrap64 ((wrap64 (s0_1 + 1)) - 1)) (s0_0.length : Int))) * 53)))) (wrap64 (Int.tdiv (wrap64 ((wrap64 ((wrap64 ((wrap64 ((wrap64 (rd s0_0 (ji14))) * 131)) + (wrap64 ((wrap64 (rd s0_0 (ji17))) * 1117)))) + (wrap64 ((wrap64 ((wrap64 (s0_1 + 1)) - 1)) * 29)))) + (wrap64 ((wrap64 (Int.tdiv (wrap64 ((wrap64 (s0_1 + 1)) - 1)) (s0_0.length : Int))) * 53)))) 64))) a1, (wrap64 (s0_1 + 1))))) else (none)) else (none)) = some (r1, r2) := by first | (rw [hji17] at H; exact H) | (simp only [hji17] at H ⊢; exact H)
        by_cases c18 : 0 ≤ (ji17)
        ·
         rw [if_pos c18] at H
         replace c18 := decide_eq_true c18
         by_cases c19 : (ji17) < (s0_0.length : Int)
         ·
          rw [if_pos c19] at H
          replace c19 := decide_eq_true c19
          by_cases c20 : a1 = 0
          ·
           rw [if_pos c20] at H
           exact absurd H (by simp)
          ·
           rw [if_neg c20] at H
           have e3 := beq_eq_false_iff_ne.mpr c20; have e4 := bne_iff_ne.mpr c20
           simp only [Option.some.injEq, Prod.mk.injEq] at H
           obtain ⟨rfl, rfl⟩ := H; obtain ⟨c3, c4, HGz21, hgz21, HSz21_0⟩ := HI0.out; have c6 := cellS144_0 HGz21; have c9 := cellS144_1 HGz21; have d0 := blk_frozen HGz21 1; clear HGz21 hgz21; have p102 : 0 ≤ ((ji14) : Int) := of_decide_eq_true (by assumption); have q102 : (ji14) < (s0_0.length : Int) := of_decide_eq_true (by assumption); obtain ⟨ad102, d6, a7⟩ := Kd.at_int HSz21_0 (ji14) p102 q102
           cases d6
           replace a7 := pw_cell_below HB.out a7; replace p102 := eq_true p102; replace q102 := eq_true q102; have p103 : 0 ≤ ((ji17) : Int) := of_decide_eq_true (by assumption); have q103 : (ji17) < (s0_0.length : Int) := of_decide_eq_true (by assumption); obtain ⟨ad103, d7, a8⟩ := Kd.at_int HSz21_0 (ji17) p103 q103; obtain rfl : ad102 = ad103 := (by injection d7); replace a8 := pw_cell_below HB.out a8; replace p103 := eq_true p103; replace q103 := eq_true q103
           go_wp2
           repeat (go_quiet (fail); try go_wp2)
           go_ret
           exact ⟨by first | rfl | (simp [errW_none, errW_some] <;> rfl) | (simp only [← hji14, ← hji17]; first | rfl | (simp [errW_none, errW_some] <;> rfl)) | (simp [*, errW_none, errW_some] <;> rfl), by repeat (with_reducible first | exact HI0.out | apply IsS144.alloc | apply IsS144.drewN | apply IsS144.drew | apply IsS144.set_1), by repeat (with_reducible first | exact HB.out | apply below_alloc | apply pw_below_drewN | apply below_drew1 | refine below_set ?_ (IsS144.ge HI0.out)), by repeat (with_reducible first | exact HK.out | apply KeepBut.set_ | apply keep_drewN | apply keep_drew | apply keep_alloc)⟩
         ·
          rw [if_neg c19] at H
          exact absurd H (by simp)
        ·
         rw [if_neg c18] at H
         exact absurd H (by simp)
       ·
        rw [if_neg c16] at H
        exact absurd H (by simp)
      ·
       rw [if_neg c15] at H
       exact absurd H (by simp)
end
section
def spec_l20Rd_odd.f (k : Nat) (s0_0 : List Int) (s0_1 : Int) (a1 : Int) : Option (Bool × Int) := if a1 > 0 then ((spec_l20Rd_pick.f k s0_0 s0_1 a1).bind fun bt101 => (some ((bt101.1 == (wrap64 (a1 - 1))), bt101.2))) else (some (false, s0_1))
set_option maxHeartbeats 8000000 in
set_option maxRecDepth 100000 in
theorem spec_l20Rd_odd.calls (k : Nat) (g : Nat) (s0_0 : List Int) (s0_1 : Int) (a1 : Int) (r1 : Bool) (r2 : Int) (w0 w : World) (hI : IsS144 w0 w g s0_0 s0_1) (hB : Below w0.heap.size w0 w) (h : spec_l20Rd_odd.f k s0_0 s0_1 a1 = some (r1, r2)) :
    Calls Tryd.prog 109 #[.pointer (some ⟨g, 0, none⟩), .int .i64 a1] w fun e w' => e = .returned (.bool r1) ∧ IsS144 w0 w' g s0_0 r2 ∧ Below w0.heap.size w0 w' ∧ KeepBut w w' g none := by
  have HI0 := Aside0.mk hI; have HK := Aside0.mk (KeepBut.refl w g none); have HL := Aside0.mk hB.size; clear hI; have HW0 := Aside0.mk hB.size; have HB := Aside0.mk hB; clear hB; have H : (if a1 > 0 then ((spec_l20Rd_pick.f k s0_0 s0_1 a1).bind fun bt101 => (some ((bt101.1 == (wrap64 (a1 - 1))), bt101.2))) else (some (false, s0_1))) = some (r1, r2) := h; clear h
  by_cases c3 : a1 > 0
  · rw [if_pos c3] at H
    have c3b0 : decide (0 < a1) = true := decide_eq_true c3; clear c3; obtain ⟨⟨t101, t102⟩, A4, H⟩ := bindA H; (try dsimp only at H)
    simp only [Option.some.injEq, Prod.mk.injEq] at H
    obtain ⟨rfl, rfl⟩ := H
    go_enter Tryd.func109, Tryd.ntmps109
    go_wp2_with (first | (go_at_call 79; (with_reducible refine (spec_l20Rd_pick.calls k g s0_0 s0_1 a1 t101 t102 w0 _ ?side1 ?side2 A4.out).mono ?_); (case side1 => repeat (with_reducible first | exact HI0.out | apply IsS144.alloc | apply IsS144.drewN | apply IsS144.drew | apply IsS144.set_1)); (case side2 => repeat (with_reducible first | exact HB.out | apply below_alloc | apply pw_below_drewN | apply below_drew1 | refine below_set ?_ (IsS144.ge HI0.out))); rintro e w5 ⟨rfl, hi, hb, hk⟩; replace HK := Aside0.mk (KeepBut.trans (by repeat (with_reducible first | exact HK.out | apply KeepBut.set_ | apply keep_drewN | apply keep_drew | apply keep_alloc)) hk (.inl rfl)); replace HB := Aside0.mk (hb); replace HI0 := Aside0.mk (hi); (try clear hb hk hi)))
    go_ret
    exact ⟨by first | rfl | (simp [*, errW_none, errW_some] <;> rfl), by repeat (with_reducible first | exact HI0.out | apply IsS144.alloc | apply IsS144.drewN | apply IsS144.drew | apply IsS144.set_1), by repeat (with_reducible first | exact HB.out | apply below_alloc | apply pw_below_drewN | apply below_drew1 | refine below_set ?_ (IsS144.ge HI0.out)), by repeat (with_reducible first | exact HK.out | apply KeepBut.set_ | apply keep_drewN | apply keep_drew | apply keep_alloc)⟩
  · rw [if_neg c3] at H
    have c3b0 : decide (0 < a1) = false := decide_eq_false c3; clear c3
    simp only [Option.some.injEq, Prod.mk.injEq] at H
    obtain ⟨rfl, rfl⟩ := H
    go_enter Tryd.func109, Tryd.ntmps109
    go_wp2
    go_ret
    exact ⟨by first | rfl | (simp [*, errW_none, errW_some] <;> rfl), by repeat (with_reducible first | exact HI0.out | apply IsS144.alloc | apply IsS144.drewN | apply IsS144.drew | apply IsS144.set_1), by repeat (with_reducible first | exact HB.out | apply below_alloc | apply pw_below_drewN | apply below_drew1 | refine below_set ?_ (IsS144.ge HI0.out)), by repeat (with_reducible first | exact HK.out | apply KeepBut.set_ | apply keep_drewN | apply keep_drew | apply keep_alloc)⟩
end
end Go.Proofs.YtiihhjfdgojkeaaDoor.X
