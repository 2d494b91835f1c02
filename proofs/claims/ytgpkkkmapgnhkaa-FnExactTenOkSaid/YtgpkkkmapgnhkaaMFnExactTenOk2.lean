/- Lemmas and contracts for the law FnExactTenOk, part 2: of the program's functions, and over data alone. No condition. -/
import Derived.Test.YtgpkkkmapgnhkaaMFnExactTenOk1
import Derived.Test.YtgpkkkmapgnhkaaProg
import Derived.Below
import Derived.Deep.Draws
import Derived.Deep.AppendLies
import Derived.Maps.AppendAt
import Derived.OwnWalk
import Derived.Laws.BytesArg
import Derived.Laws.MakeOwn
import Derived.Laws.OwnMore
import Derived.Deep.OwnRows
import Derived.Tactics
import Derived.Lib.ConvBytes
import Derived.Laws.Slices
import Derived.WalkKit
import Derived.KernelRfl
import Derived.RowKit3
import Derived.Deep.LoopGhost
import Derived.Deep.QuietTactic
import Derived.BigQuiet
import Derived.WideLaws
import Derived.Deep.DeepCutAuto
import Derived.Deep.CutBlock
import Derived.Deep.RegionHeld3
import Derived.Laws.Rows
import Derived.Lib.AppendStr
import Derived.ArgAppend
import Derived.Laws.IdiomCopy
import Derived.OrdersHeld
import Derived.Laws.BitsLemmas
import Derived.RowKit
namespace Go.Proofs.YtgpkkkmapgnhkaaW.PrintLast
open Go.RowKit Go.Proofs.YtgpkkkmapgnhkaaW.PrintWords
variable {P : Program} {ops : Array Oper} {Q : Exit → Act → World → Prop} {S : World → Prop} {ds : List Nat}
/-- An operation that yields in every world. -/
theorem pz_ {T : Bool × List (List Nat × List Nat)} {oi : Oper} {v : Value} {fuel : Nat} {l : Array Bool} {a : Act} {w : World} (i d : Nat) (l' : Array Bool) (hT : Aside0 (rtab .any ops = T)) (hc : anyT T l.toList l'.toList i = true) {a' : Act}
    (h : wpAnyLast P .any ops Q S ds fuel l' a' w)
    (hi : ops[i]? = some oi := by rfl) (hN : oi.dst = some d := by rfl) (hw : Region.wanted oi (yielded ops a.tmps) = true := by rfl)
    (hy : ∀ w', (execOp a.eval oi).run P w' = .ok (.value v) w' := by (intro w'; go_simp; with_reducible rfl))
    (ha : a.put (some d) v = a' := by (simp only [Act.put, List.setIfInBounds_toArray, List.set_cons_zero, List.set_cons_succ, i64_w, i32_w]; rfl))
    (hQ : ∀ c a w, Q (.panic c) (a.put oi.dst v) w → Q (.panic c) a w := by exact fun _ _ _ h => h) :
    wpAnyLast P .any ops Q S ds (fuel + 1) l a w :=
  pure_ l' hi hN (any_of hT.out hc) hQ (Or.inl ⟨hw, hy⟩) ha h
/-- An operation that reads what S says. -/
theorem tz_ {T : Bool × List (List Nat × List Nat)} {B : List Nat} {oi : Oper} {v : Value} {fuel : Nat} {l : Array Bool} {a : Act} {w : World} (i d : Nat) (l' : Array Bool) (hT : Aside0 (rtab .any ops = T)) (hB : Aside0 (waitsOk T.2 B = true)) (hc : takeW T B ds l.toList l'.toList i = true) (hS : S w) {a' : Act}
    (h : wpAnyLast P .any ops Q S ds fuel l' a' w)
    (hi : ops[i]? = some oi := by rfl) (hN : oi.dst = some d := by rfl) (hw : Region.wanted oi (yielded ops a.tmps) = true := by rfl)
    (hy : ∀ w', S w' → (execOp a.eval oi).run P w' = .ok (.value v) w' := by (intro w' hs; go_simp; with_reducible rfl))
    (ha : a.put (some d) v = a' := by (simp only [Act.put, List.setIfInBounds_toArray, List.set_cons_zero, List.set_cons_succ, i64_w, i32_w]; rfl))
    (hQ : ∀ c a w, Q (.panic c) (a.put oi.dst v) w → Q (.panic c) a w := by exact fun _ _ _ h => h) :
    wpAnyLast P .any ops Q S ds (fuel + 1) l a w :=
  take_ l' hi hN (take_ofW hT.out hB.out hc) hQ (Or.inl ⟨hw, hy⟩) hS ha h
/-- An operation that is not wanted. -/
theorem pu_ {T : Bool × List (List Nat × List Nat)} {oi : Oper} {fuel : Nat} {l : Array Bool} {a : Act} {w : World} (i d : Nat) (l' : Array Bool) (hT : Aside0 (rtab .any ops = T)) (hc : anyT T l.toList l'.toList i = true) {a' : Act}
    (h : wpAnyLast P .any ops Q S ds fuel l' a' w)
    (hi : ops[i]? = some oi := by rfl) (hN : oi.dst = some d := by rfl) (hw : Region.wanted oi (yielded ops a.tmps) = false := by rfl)
    (ha : a.put (some d) undef = a' := by (simp only [Act.put, List.setIfInBounds_toArray, List.set_cons_zero, List.set_cons_succ, i64_w, i32_w]; rfl))
    (hQ : ∀ c a w, Q (.panic c) (a.put oi.dst undef) w → Q (.panic c) a w := by exact fun _ _ _ h => h) :
    wpAnyLast P .any ops Q S ds (fuel + 1) l a w :=
  pure_ l' hi hN (any_of hT.out hc) hQ (Or.inr ⟨hw, rfl⟩) ha h
/-! ### What is kept in a world that was made of another one by making blocks and by drawing -/
class UpW (w w' : World) : Prop where
  step : ∀ K : World → Prop, (∀ v O, K v → K (v.alloc O)) → (∀ v, K v → K v.drew) → (∀ v n, K v → K (v.drewN n)) → K w → K w'
instance upw_refl (w : World) : UpW w w := ⟨fun _ _ _ _ h => h⟩
instance upw_alloc (w w' : World) (O : Obj) [h : UpW w w'] : UpW w (w'.alloc O) := ⟨fun K a b c k => a _ _ (h.step K a b c k)⟩
instance upw_drew (w w' : World) [h : UpW w w'] : UpW w w'.drew := ⟨fun K a b c k => b _ (h.step K a b c k)⟩
instance upw_drewN (w w' : World) (n : Nat) [h : UpW w w'] : UpW w (w'.drewN n) := ⟨fun K a b c k => c _ _ (h.step K a b c k)⟩
theorem upB {w w' : World} {g : Nat} {o : Obj} (h : w.heap[g]? = some o) [u : UpW w w'] : w'.heap[g]? = some o := u.step (fun v => v.heap[g]? = some o) (fun _ O k => blk_alloc k O) (fun _ k => blk_drew k) (fun _ n k => blk_drewN k n) h
theorem upR {α : Type} {d : Kd α} {e base : Nat} {ok : Nat → Prop} {w w' : World} {v : Value} {xs : List α} (h : d.R e w base ok v xs) [u : UpW w w'] : d.R e w' base ok v xs := u.step (fun x => d.R e x base ok v xs) (fun _ O k => Kd.R_alloc k O) (fun _ k => Kd.R_drew k) (fun _ n k => Kd.R_drewN k n) h
theorem upH {w0 w w' : World} (h : Below w0.heap.size w0 w) [u : UpW w w'] : Below w0.heap.size w0 w' := u.step (fun x => Below w0.heap.size w0 x) (fun _ O k => below_alloc k O) (fun _ k => below_drew1 k) (fun _ n k => pw_below_drewN k n) h
/-- One world made of another by making a block or by drawing. -/
class OneW (w : outParam World) (w' : World) : Prop where
  up : UpW w w'
instance onew_alloc (w : World) (O : Obj) : OneW w (w.alloc O) := ⟨inferInstance⟩
instance onew_drew (w : World) : OneW w w.drew := ⟨inferInstance⟩
instance onew_drewN (w : World) (n : Nat) : OneW w (w.drewN n) := ⟨inferInstance⟩
theorem oneB {w w' : World} {g : Nat} {o : Obj} (h : w.heap[g]? = some o) [u : OneW w w'] : w'.heap[g]? = some o := @upB _ _ _ _ h u.up
/-! ### Cells of a block -/
section
variable {w : World} {g t : Nat} {a b c d e f i j k : Value}
theorem cc3_ (h : w.heap[g]? = some (.cells #[a, b, c] t (0, 0))) : w.cell? ⟨g, 0, none⟩ = some a ∧ w.cell? ⟨g, 1, none⟩ = some b ∧ w.cell? ⟨g, 2, none⟩ = some c := ⟨(blk_cell h 0).trans rfl, (blk_cell h 1).trans rfl, (blk_cell h 2).trans rfl⟩
theorem cc4_ (h : w.heap[g]? = some (.cells #[a, b, c, d] t (0, 0))) : w.cell? ⟨g, 0, none⟩ = some a ∧ w.cell? ⟨g, 1, none⟩ = some b ∧ w.cell? ⟨g, 2, none⟩ = some c ∧ w.cell? ⟨g, 3, none⟩ = some d := ⟨(blk_cell h 0).trans rfl, (blk_cell h 1).trans rfl, (blk_cell h 2).trans rfl, (blk_cell h 3).trans rfl⟩
theorem cc5_ (h : w.heap[g]? = some (.cells #[a, b, c, d, e] t (0, 0))) : w.cell? ⟨g, 0, none⟩ = some a ∧ w.cell? ⟨g, 1, none⟩ = some b ∧ w.cell? ⟨g, 2, none⟩ = some c ∧ w.cell? ⟨g, 3, none⟩ = some d ∧ w.cell? ⟨g, 4, none⟩ = some e := ⟨(blk_cell h 0).trans rfl, (blk_cell h 1).trans rfl, (blk_cell h 2).trans rfl, (blk_cell h 3).trans rfl, (blk_cell h 4).trans rfl⟩
theorem cc7_ (h : w.heap[g]? = some (.cells #[a, b, c, d, e, f, i] t (0, 0))) : w.cell? ⟨g, 0, none⟩ = some a ∧ w.cell? ⟨g, 1, none⟩ = some b ∧ w.cell? ⟨g, 2, none⟩ = some c ∧ w.cell? ⟨g, 3, none⟩ = some d ∧ w.cell? ⟨g, 4, none⟩ = some e ∧ w.cell? ⟨g, 5, none⟩ = some f ∧ w.cell? ⟨g, 6, none⟩ = some i := ⟨(blk_cell h 0).trans rfl, (blk_cell h 1).trans rfl, (blk_cell h 2).trans rfl, (blk_cell h 3).trans rfl, (blk_cell h 4).trans rfl, (blk_cell h 5).trans rfl, (blk_cell h 6).trans rfl⟩
theorem cc8_ (h : w.heap[g]? = some (.cells #[a, b, c, d, e, f, i, j] t (0, 0))) : w.cell? ⟨g, 0, none⟩ = some a ∧ w.cell? ⟨g, 1, none⟩ = some b ∧ w.cell? ⟨g, 2, none⟩ = some c ∧ w.cell? ⟨g, 3, none⟩ = some d ∧ w.cell? ⟨g, 4, none⟩ = some e ∧ w.cell? ⟨g, 5, none⟩ = some f ∧ w.cell? ⟨g, 6, none⟩ = some i ∧ w.cell? ⟨g, 7, none⟩ = some j := ⟨(blk_cell h 0).trans rfl, (blk_cell h 1).trans rfl, (blk_cell h 2).trans rfl, (blk_cell h 3).trans rfl, (blk_cell h 4).trans rfl, (blk_cell h 5).trans rfl, (blk_cell h 6).trans rfl, (blk_cell h 7).trans rfl⟩
variable {cs : Array Value}
theorem cf2_ (h : w.heap[g]? = some (.cells cs t (0, 0))) : w.frozen? ⟨g, 0, none⟩ = false ∧ w.frozen? ⟨g, 1, none⟩ = false := ⟨blk_frozen h 0, blk_frozen h 1⟩
theorem cf3_ (h : w.heap[g]? = some (.cells cs t (0, 0))) : w.frozen? ⟨g, 0, none⟩ = false ∧ w.frozen? ⟨g, 1, none⟩ = false ∧ w.frozen? ⟨g, 2, none⟩ = false := ⟨blk_frozen h 0, blk_frozen h 1, blk_frozen h 2⟩
theorem cf4_ (h : w.heap[g]? = some (.cells cs t (0, 0))) : w.frozen? ⟨g, 0, none⟩ = false ∧ w.frozen? ⟨g, 1, none⟩ = false ∧ w.frozen? ⟨g, 2, none⟩ = false ∧ w.frozen? ⟨g, 3, none⟩ = false := ⟨blk_frozen h 0, blk_frozen h 1, blk_frozen h 2, blk_frozen h 3⟩
theorem cf5_ (h : w.heap[g]? = some (.cells cs t (0, 0))) : w.frozen? ⟨g, 0, none⟩ = false ∧ w.frozen? ⟨g, 1, none⟩ = false ∧ w.frozen? ⟨g, 2, none⟩ = false ∧ w.frozen? ⟨g, 3, none⟩ = false ∧ w.frozen? ⟨g, 4, none⟩ = false := ⟨blk_frozen h 0, blk_frozen h 1, blk_frozen h 2, blk_frozen h 3, blk_frozen h 4⟩
theorem cf6_ (h : w.heap[g]? = some (.cells cs t (0, 0))) : w.frozen? ⟨g, 0, none⟩ = false ∧ w.frozen? ⟨g, 1, none⟩ = false ∧ w.frozen? ⟨g, 2, none⟩ = false ∧ w.frozen? ⟨g, 3, none⟩ = false ∧ w.frozen? ⟨g, 4, none⟩ = false ∧ w.frozen? ⟨g, 5, none⟩ = false := ⟨blk_frozen h 0, blk_frozen h 1, blk_frozen h 2, blk_frozen h 3, blk_frozen h 4, blk_frozen h 5⟩
theorem cf7_ (h : w.heap[g]? = some (.cells cs t (0, 0))) : w.frozen? ⟨g, 0, none⟩ = false ∧ w.frozen? ⟨g, 1, none⟩ = false ∧ w.frozen? ⟨g, 2, none⟩ = false ∧ w.frozen? ⟨g, 3, none⟩ = false ∧ w.frozen? ⟨g, 4, none⟩ = false ∧ w.frozen? ⟨g, 5, none⟩ = false ∧ w.frozen? ⟨g, 6, none⟩ = false := ⟨blk_frozen h 0, blk_frozen h 1, blk_frozen h 2, blk_frozen h 3, blk_frozen h 4, blk_frozen h 5, blk_frozen h 6⟩
theorem cf8_ (h : w.heap[g]? = some (.cells cs t (0, 0))) : w.frozen? ⟨g, 0, none⟩ = false ∧ w.frozen? ⟨g, 1, none⟩ = false ∧ w.frozen? ⟨g, 2, none⟩ = false ∧ w.frozen? ⟨g, 3, none⟩ = false ∧ w.frozen? ⟨g, 4, none⟩ = false ∧ w.frozen? ⟨g, 5, none⟩ = false ∧ w.frozen? ⟨g, 6, none⟩ = false ∧ w.frozen? ⟨g, 7, none⟩ = false := ⟨blk_frozen h 0, blk_frozen h 1, blk_frozen h 2, blk_frozen h 3, blk_frozen h 4, blk_frozen h 5, blk_frozen h 6, blk_frozen h 7⟩
end
/-- A step of what a function comes to. -/
theorem bindA {α β : Type} {x : Option α} {f : α → Option β} {r : β} (H : x.bind f = some r) : ∃ a, Aside0 (x = some a) ∧ f a = some r := by
  obtain ⟨a, h, k⟩ := Option.bind_eq_some_iff.mp H
  exact ⟨a, ⟨h⟩, k⟩
/-- n signs, off a number. -/
def bl_ (n m : Nat) : Array Bool := ((List.range n).map fun i => m.testBit i).toArray
section
variable {P : Program} {ops : Array Oper} {rest : List Oper} {o : Oper} {a : Act} {Q : Exit → Act → World → Prop}
/-- A block is made. -/
theorem bx_ {W : World} (N : Tmp) (hd : o.dst = some N) (cs : Array Value) (t : TypeId)
    (h : ∀ g, g = W.heap.size → ∀ w1, w1.heap[g]? = some (.cells cs t (0, 0)) → Below W.heap.size W w1 → wpList P ops Q rest (a.put o.dst (.pointer (some ⟨g, 0, none⟩))) w1)
    (hg : o.guard = none := by first | rfl | (simp [Region.wanted, yielded, *]; done))
    (hr : (execOp a.eval o).run P W = .ok (.value (.pointer (some ⟨W.heap.size, 0, none⟩))) (W.alloc (.cells cs t (0, 0))) := by first | (go_simp; done) | (go_simp; rfl)) : wpList P ops Q (o :: rest) a W := box_event hg hd hr h
theorem gc_ (f : FuncId) {W : World} {as1 : Array Operand} {ts : Array TypeId} (_ho : o.op = .call { callee := .value (.func f), args := as1, argTypes := ts }) (h : wpList P ops Q (o :: rest) a W) : wpList P ops Q (o :: rest) a W := h
theorem gd_ (N : Tmp) {W : World} (_hN : o.dst = some N) (h : wpList P ops Q (o :: rest) a W) : wpList P ops Q (o :: rest) a W := h
/-- A call. -/
theorem gl_ {w : World} (N : Option Tmp) (hd : o.dst = N) {f : FuncId} {fn : Func} {aa : Array Operand} {ts : Array TypeId} (hf : P.funcs[f]? = some fn) (args : Array Value)
    (h : Calls P f args w fun e w' => ∃ v, e = .returned v ∧ wpList P ops Q rest (a.put N v) w') (hg : o.guard = none := by rfl) (hname : (fn.name == "runtime.NumGoroutine") = false := by kernel_rfl) (hb : fn.body.isSome = true := by rfl)
    (hop : o.op = .call { callee := .value (.func f), args := aa, argTypes := ts } := by rfl) (hargs : aa.map a.eval = args := by ((try simp only [List.map_toArray, List.map_cons, List.map_nil]); first | done | rfl | (simp only [List.length_drop, List.length_take]; rfl))) : wpList P ops Q (o :: rest) a w :=
  goesL_ N hd hg hf hname hb args hop hargs h
end
end Go.Proofs.YtgpkkkmapgnhkaaW.PrintLast
namespace Go.Proofs.Ytgpkkkmapgnhkaa.X
open Go.RowKit Go.Proofs.YtgpkkkmapgnhkaaW.PrintWords Go.Proofs.YtgpkkkmapgnhkaaW.PrintLast Go.Proofs.YtgpkkkmapgnhkaaW.PrintMore
attribute [local go_sem] max2_int min2_int max_two min_two max_three min_three max_four min_four
set_option linter.unusedVariables false
set_option linter.unusedSimpArgs false

section
def errW : Option Int → Value
  | none => .nilIface
  | some c => .iface 0 (.int .i64 c)
theorem errW_none : errW none = .nilIface := rfl
theorem errW_some (c : Int) : errW (some c) = .iface 0 (.int .i64 c) := rfl

theorem info5 : (Try.prog.info? 5).map (fun i => (i.zero, i.size, i.bytes)) = some (some (.int .u8 0), 1, 1) := by kernel_rfl
theorem info9 : (Try.prog.info? 9).map (fun i => (i.zero, i.size, i.bytes)) = some (some (.string ⟨#[]⟩), 1, 16) := by kernel_rfl
theorem info124 : (Try.prog.info? 124).map (fun i => (i.zero, i.size, i.bytes)) = some (some (.agg #[(.int .i64 0), (.string ⟨#[]⟩), (.slice none 0 0), (.int .i64 0)]), 4, 56) := by kernel_rfl
theorem info146 : (Try.prog.info? 146).map (fun i => (i.zero, i.size, i.bytes)) = some (some (.agg #[(.int .i64 0), (.int .i64 0), (.int .i64 0), (.int .i64 0), (.int .i64 0)]), 5, 40) := by kernel_rfl
theorem info156 : (Try.prog.info? 156).map (fun i => (i.zero, i.size, i.bytes)) = some (some (.agg #[(.string ⟨#[]⟩), (.int .i64 0), (.slice none 0 0)]), 3, 48) := by kernel_rfl
theorem info158 : (Try.prog.info? 158).map (fun i => (i.zero, i.size, i.bytes)) = some (some (.agg #[(.int .i64 0), (.int .i64 0), (.slice none 0 0)]), 3, 40) := by kernel_rfl
-- the values' own types

/-! #### struct type 24 -/
structure S24 where
  f0 : (List Int)
  f1 : Int
  f2 : Int
  f3 : Int
  f4 : Int
  f5 : Int
  f6 : Int
def z24 : S24 := ⟨([] : List Int), (0 : Int), (0 : Int), (0 : Int), (0 : Int), (0 : Int), (0 : Int)⟩
def rd_T24 (xs : List S24) (i : Int) : S24 := xs.getD i.toNat z24

/-! #### struct type 148 -/
structure S148 where
  f0 : Int
  f1 : Int
  f2 : Int
  f3 : Int
  f4 : Int
def z148 : S148 := ⟨(0 : Int), (0 : Int), (0 : Int), (0 : Int), (0 : Int)⟩
def k148 : Kd S148 := Kd.iso (Kd.pair (Kd.int .i64) (Kd.pair (Kd.int .i64) (Kd.pair (Kd.int .i64) (Kd.pair (Kd.int .i64) (Kd.int .i64))))) (fun x : S148 => (x.f0, x.f1, x.f2, x.f3, x.f4))
theorem k148_open {w : World} {x : S148} {cs : List Value} (h : k148.K w x cs) : cs = [.int .i64 x.f0, .int .i64 x.f1, .int .i64 x.f2, .int .i64 x.f3, .int .i64 x.f4] := by
  obtain ⟨_, _, rfl, rfl, ⟨_, _, rfl, rfl, ⟨_, _, rfl, rfl, ⟨_, _, rfl, rfl, rfl⟩⟩⟩⟩ := h
  exact rfl
def rd_T148 (xs : List S148) (i : Int) : S148 := xs.getD i.toNat z148
theorem at_T148 {w : World} {A : Option Addr} {n : Nat} {xs : List S148} (h : Kd.C k148 w A n xs) (i : Int) (h0 : 0 ≤ i) (h1 : i < n) : ∃ ad , A = some ad ∧ w.cell? (ad.add (i.toNat * 5)) = some (.int .i64 (rd_T148 xs i).f0) ∧ w.cell? ⟨(ad.add (i.toNat * 5)).block, (ad.add (i.toNat * 5)).off + 1, none⟩ = some (.int .i64 (rd_T148 xs i).f1) ∧ w.cell? ⟨(ad.add (i.toNat * 5)).block, (ad.add (i.toNat * 5)).off + 2, none⟩ = some (.int .i64 (rd_T148 xs i).f2) ∧ w.cell? ⟨(ad.add (i.toNat * 5)).block, (ad.add (i.toNat * 5)).off + 3, none⟩ = some (.int .i64 (rd_T148 xs i).f3) ∧ w.cell? ⟨(ad.add (i.toNat * 5)).block, (ad.add (i.toNat * 5)).off + 4, none⟩ = some (.int .i64 (rd_T148 xs i).f4) := by
  obtain ⟨ad, c, e, _, hK, hc0⟩ := Kd.C_get h z148 i h0 h1
  have hc : ∀ j u, c[j]? = some u → w.cell? (ad.add (i.toNat * 5 + j)) = some u := hc0
  obtain rfl := k148_open hK
  exact ⟨ad, e, hc 0 _ rfl, by rw [← add_field _ _ 1 (by omega)]; exact hc 1 _ rfl, by rw [← add_field _ _ 2 (by omega)]; exact hc 2 _ rfl, by rw [← add_field _ _ 3 (by omega)]; exact hc 3 _ rfl, by rw [← add_field _ _ 4 (by omega)]; exact hc 4 _ rfl⟩

/-! #### struct type 146 -/
structure S146 where
  f0 : Int
  f1 : Int
  f2 : Int
  f3 : Int
  f4 : Int
def z146 : S146 := ⟨(0 : Int), (0 : Int), (0 : Int), (0 : Int), (0 : Int)⟩
def k146 : Kd S146 := Kd.iso (Kd.pair (Kd.int .i64) (Kd.pair (Kd.int .i64) (Kd.pair (Kd.int .i64) (Kd.pair (Kd.int .i64) (Kd.int .i64))))) (fun x : S146 => (x.f0, x.f1, x.f2, x.f3, x.f4))
theorem k146_open {w : World} {x : S146} {cs : List Value} (h : k146.K w x cs) : cs = [.int .i64 x.f0, .int .i64 x.f1, .int .i64 x.f2, .int .i64 x.f3, .int .i64 x.f4] := by
  obtain ⟨_, _, rfl, rfl, ⟨_, _, rfl, rfl, ⟨_, _, rfl, rfl, ⟨_, _, rfl, rfl, rfl⟩⟩⟩⟩ := h
  exact rfl
theorem k146_openM {w : World} {base : Nat} {ok : Nat → Prop} {x : S146} {cs : List Value} (h : k146.M w base ok x cs) : cs = [.int .i64 x.f0, .int .i64 x.f1, .int .i64 x.f2, .int .i64 x.f3, .int .i64 x.f4] := by
  obtain ⟨_, _, rfl, rfl, ⟨_, _, rfl, rfl, ⟨_, _, rfl, rfl, ⟨_, _, rfl, rfl, rfl⟩⟩⟩⟩ := h
  exact rfl
theorem k146_mkM (w : World) (base : Nat) (ok : Nat → Prop) (x : S146)  : k146.M w base ok x [.int .i64 x.f0, .int .i64 x.f1, .int .i64 x.f2, .int .i64 x.f3, .int .i64 x.f4] := ⟨[.int .i64 x.f0], [.int .i64 x.f1, .int .i64 x.f2, .int .i64 x.f3, .int .i64 x.f4], rfl, rfl, ⟨[.int .i64 x.f1], [.int .i64 x.f2, .int .i64 x.f3, .int .i64 x.f4], rfl, rfl, ⟨[.int .i64 x.f2], [.int .i64 x.f3, .int .i64 x.f4], rfl, rfl, ⟨[.int .i64 x.f3], [.int .i64 x.f4], rfl, rfl, rfl⟩⟩⟩⟩
def rd_T146 (xs : List S146) (i : Int) : S146 := xs.getD i.toNat z146
theorem at_T146 {w : World} {A : Option Addr} {n : Nat} {xs : List S146} (h : Kd.C k146 w A n xs) (i : Int) (h0 : 0 ≤ i) (h1 : i < n) : ∃ ad , A = some ad ∧ w.cell? (ad.add (i.toNat * 5)) = some (.int .i64 (rd_T146 xs i).f0) ∧ w.cell? ⟨(ad.add (i.toNat * 5)).block, (ad.add (i.toNat * 5)).off + 1, none⟩ = some (.int .i64 (rd_T146 xs i).f1) ∧ w.cell? ⟨(ad.add (i.toNat * 5)).block, (ad.add (i.toNat * 5)).off + 2, none⟩ = some (.int .i64 (rd_T146 xs i).f2) ∧ w.cell? ⟨(ad.add (i.toNat * 5)).block, (ad.add (i.toNat * 5)).off + 3, none⟩ = some (.int .i64 (rd_T146 xs i).f3) ∧ w.cell? ⟨(ad.add (i.toNat * 5)).block, (ad.add (i.toNat * 5)).off + 4, none⟩ = some (.int .i64 (rd_T146 xs i).f4) := by
  obtain ⟨ad, c, e, _, hK, hc0⟩ := Kd.C_get h z146 i h0 h1
  have hc : ∀ j u, c[j]? = some u → w.cell? (ad.add (i.toNat * 5 + j)) = some u := hc0
  obtain rfl := k146_open hK
  exact ⟨ad, e, hc 0 _ rfl, by rw [← add_field _ _ 1 (by omega)]; exact hc 1 _ rfl, by rw [← add_field _ _ 2 (by omega)]; exact hc 2 _ rfl, by rw [← add_field _ _ 3 (by omega)]; exact hc 3 _ rfl, by rw [← add_field _ _ 4 (by omega)]; exact hc 4 _ rfl⟩

/-! #### struct type 110 -/
structure S110 where
  f0 : Int
  f1 : ByteArray
  f2 : Int
  f3 : (List Int)
  f4 : Int

/-! #### struct type 112 -/
structure S112 where
  f0 : Int
  f1 : S110

/-! #### struct type 113 -/
structure S113 where
  f0 : Int
  f1 : ByteArray
  f2 : Int
  f3 : (List Int)
  f4 : Int

/-! #### struct type 115 -/
structure S115 where
  f0 : Int
  f1 : S113

/-! #### struct type 124 -/
structure S124 where
  f0 : Int
  f1 : ByteArray
  f2 : (List S146)
  f3 : Int
def z124 : S124 := ⟨(0 : Int), (⟨#[]⟩ : ByteArray), ([] : List S146), (0 : Int)⟩
def k124 : Kd S124 := Kd.iso (Kd.pair (Kd.int .i64) (Kd.pair Kd.string (Kd.pair (Kd.slice 146 k146) (Kd.int .i64)))) (fun x : S124 => (x.f0, x.f1, x.f2, x.f3))
theorem k124_open {w : World} {x : S124} {cs : List Value} (h : k124.K w x cs) : ∃ A2 c2, cs = [.int .i64 x.f0, .string x.f1, .slice A2 x.f2.length c2, .int .i64 x.f3] ∧ x.f2.length ≤ c2 ∧ k146.C w A2 x.f2.length x.f2 := by
  obtain ⟨_, _, rfl, rfl, ⟨_, _, rfl, rfl, ⟨_, _, rfl, ⟨A2, c2, rfl, l2, g2⟩, rfl⟩⟩⟩ := h
  exact ⟨A2, c2, rfl, l2, g2⟩
theorem k124_openM {w : World} {base : Nat} {ok : Nat → Prop} {x : S124} {cs : List Value} (h : k124.M w base ok x cs) : ∃ v2, cs = [.int .i64 x.f0, .string x.f1, v2, .int .i64 x.f3] ∧ k146.R 146 w base ok v2 x.f2 := by
  obtain ⟨_, _, rfl, rfl, ⟨_, _, rfl, rfl, ⟨_, _, rfl, ⟨v2, rfl, g2⟩, rfl⟩⟩⟩ := h
  exact ⟨v2, rfl, g2⟩
theorem k124_mkM (w : World) (base : Nat) (ok : Nat → Prop) (x : S124) {v2 : Value} (g2 : k146.R 146 w base ok v2 x.f2) : k124.M w base ok x [.int .i64 x.f0, .string x.f1, v2, .int .i64 x.f3] := ⟨[.int .i64 x.f0], [.string x.f1, v2, .int .i64 x.f3], rfl, rfl, ⟨[.string x.f1], [v2, .int .i64 x.f3], rfl, rfl, ⟨[v2], [.int .i64 x.f3], rfl, ⟨v2, rfl, g2⟩, rfl⟩⟩⟩
def rd_T124 (xs : List S124) (i : Int) : S124 := xs.getD i.toNat z124
theorem at_T124 {w : World} {A : Option Addr} {n : Nat} {xs : List S124} (h : Kd.C k124 w A n xs) (i : Int) (h0 : 0 ≤ i) (h1 : i < n) : ∃ ad A2 c2, A = some ad ∧ w.cell? (ad.add (i.toNat * 4)) = some (.int .i64 (rd_T124 xs i).f0) ∧ w.cell? ⟨(ad.add (i.toNat * 4)).block, (ad.add (i.toNat * 4)).off + 1, none⟩ = some (.string (rd_T124 xs i).f1) ∧ w.cell? ⟨(ad.add (i.toNat * 4)).block, (ad.add (i.toNat * 4)).off + 2, none⟩ = some (.slice A2 (rd_T124 xs i).f2.length c2) ∧ w.cell? ⟨(ad.add (i.toNat * 4)).block, (ad.add (i.toNat * 4)).off + 3, none⟩ = some (.int .i64 (rd_T124 xs i).f3) ∧ (rd_T124 xs i).f2.length ≤ c2 ∧ k146.C w A2 (rd_T124 xs i).f2.length (rd_T124 xs i).f2 := by
  obtain ⟨ad, c, e, _, hK, hc0⟩ := Kd.C_get h z124 i h0 h1
  have hc : ∀ j u, c[j]? = some u → w.cell? (ad.add (i.toNat * 4 + j)) = some u := hc0
  obtain ⟨A2, c2, rfl, l2, g2⟩ := k124_open hK
  exact ⟨ad, A2, c2, e, hc 0 _ rfl, by rw [← add_field _ _ 1 (by omega)]; exact hc 1 _ rfl, by rw [← add_field _ _ 2 (by omega)]; exact hc 2 _ rfl, by rw [← add_field _ _ 3 (by omega)]; exact hc 3 _ rfl, l2, g2⟩

/-! #### struct type 156 -/
structure S156 where
  f0 : ByteArray
  f1 : Int
  f2 : (List Int)
def z156 : S156 := ⟨(⟨#[]⟩ : ByteArray), (0 : Int), ([] : List Int)⟩
def k156 : Kd S156 := Kd.iso (Kd.pair Kd.string (Kd.pair (Kd.int .i64) (Kd.slice 5 (Kd.int .u8)))) (fun x : S156 => (x.f0, x.f1, x.f2))
theorem k156_open {w : World} {x : S156} {cs : List Value} (h : k156.K w x cs) : ∃ A2 c2, cs = [.string x.f0, .int .i64 x.f1, .slice A2 x.f2.length c2] ∧ x.f2.length ≤ c2 ∧ (Kd.int .u8).C w A2 x.f2.length x.f2 := by
  obtain ⟨_, _, rfl, rfl, ⟨_, _, rfl, rfl, ⟨A2, c2, rfl, l2, g2⟩⟩⟩ := h
  exact ⟨A2, c2, rfl, l2, g2⟩
theorem k156_openM {w : World} {base : Nat} {ok : Nat → Prop} {x : S156} {cs : List Value} (h : k156.M w base ok x cs) : ∃ v2, cs = [.string x.f0, .int .i64 x.f1, v2] ∧ (Kd.int .u8).R 5 w base ok v2 x.f2 := by
  obtain ⟨_, _, rfl, rfl, ⟨_, _, rfl, rfl, ⟨v2, rfl, g2⟩⟩⟩ := h
  exact ⟨v2, rfl, g2⟩
theorem k156_mkM (w : World) (base : Nat) (ok : Nat → Prop) (x : S156) {v2 : Value} (g2 : (Kd.int .u8).R 5 w base ok v2 x.f2) : k156.M w base ok x [.string x.f0, .int .i64 x.f1, v2] := ⟨[.string x.f0], [.int .i64 x.f1, v2], rfl, rfl, ⟨[.int .i64 x.f1], [v2], rfl, rfl, ⟨v2, rfl, g2⟩⟩⟩
def rd_T156 (xs : List S156) (i : Int) : S156 := xs.getD i.toNat z156
theorem at_T156 {w : World} {A : Option Addr} {n : Nat} {xs : List S156} (h : Kd.C k156 w A n xs) (i : Int) (h0 : 0 ≤ i) (h1 : i < n) : ∃ ad A2 c2, A = some ad ∧ w.cell? (ad.add (i.toNat * 3)) = some (.string (rd_T156 xs i).f0) ∧ w.cell? ⟨(ad.add (i.toNat * 3)).block, (ad.add (i.toNat * 3)).off + 1, none⟩ = some (.int .i64 (rd_T156 xs i).f1) ∧ w.cell? ⟨(ad.add (i.toNat * 3)).block, (ad.add (i.toNat * 3)).off + 2, none⟩ = some (.slice A2 (rd_T156 xs i).f2.length c2) ∧ (rd_T156 xs i).f2.length ≤ c2 ∧ (Kd.int .u8).C w A2 (rd_T156 xs i).f2.length (rd_T156 xs i).f2 := by
  obtain ⟨ad, c, e, _, hK, hc0⟩ := Kd.C_get h z156 i h0 h1
  have hc : ∀ j u, c[j]? = some u → w.cell? (ad.add (i.toNat * 3 + j)) = some u := hc0
  obtain ⟨A2, c2, rfl, l2, g2⟩ := k156_open hK
  exact ⟨ad, A2, c2, e, hc 0 _ rfl, by rw [← add_field _ _ 1 (by omega)]; exact hc 1 _ rfl, by rw [← add_field _ _ 2 (by omega)]; exact hc 2 _ rfl, l2, g2⟩

/-! #### struct type 158 -/
structure S158 where
  f0 : Int
  f1 : Int
  f2 : (List Int)
def z158 : S158 := ⟨(0 : Int), (0 : Int), ([] : List Int)⟩
def k158 : Kd S158 := Kd.iso (Kd.pair (Kd.int .i64) (Kd.pair (Kd.int .i64) (Kd.slice 5 (Kd.int .u8)))) (fun x : S158 => (x.f0, x.f1, x.f2))
theorem k158_open {w : World} {x : S158} {cs : List Value} (h : k158.K w x cs) : ∃ A2 c2, cs = [.int .i64 x.f0, .int .i64 x.f1, .slice A2 x.f2.length c2] ∧ x.f2.length ≤ c2 ∧ (Kd.int .u8).C w A2 x.f2.length x.f2 := by
  obtain ⟨_, _, rfl, rfl, ⟨_, _, rfl, rfl, ⟨A2, c2, rfl, l2, g2⟩⟩⟩ := h
  exact ⟨A2, c2, rfl, l2, g2⟩
theorem k158_openM {w : World} {base : Nat} {ok : Nat → Prop} {x : S158} {cs : List Value} (h : k158.M w base ok x cs) : ∃ v2, cs = [.int .i64 x.f0, .int .i64 x.f1, v2] ∧ (Kd.int .u8).R 5 w base ok v2 x.f2 := by
  obtain ⟨_, _, rfl, rfl, ⟨_, _, rfl, rfl, ⟨v2, rfl, g2⟩⟩⟩ := h
  exact ⟨v2, rfl, g2⟩
theorem k158_mkM (w : World) (base : Nat) (ok : Nat → Prop) (x : S158) {v2 : Value} (g2 : (Kd.int .u8).R 5 w base ok v2 x.f2) : k158.M w base ok x [.int .i64 x.f0, .int .i64 x.f1, v2] := ⟨[.int .i64 x.f0], [.int .i64 x.f1, v2], rfl, rfl, ⟨[.int .i64 x.f1], [v2], rfl, rfl, ⟨v2, rfl, g2⟩⟩⟩
def rd_T158 (xs : List S158) (i : Int) : S158 := xs.getD i.toNat z158
theorem at_T158 {w : World} {A : Option Addr} {n : Nat} {xs : List S158} (h : Kd.C k158 w A n xs) (i : Int) (h0 : 0 ≤ i) (h1 : i < n) : ∃ ad A2 c2, A = some ad ∧ w.cell? (ad.add (i.toNat * 3)) = some (.int .i64 (rd_T158 xs i).f0) ∧ w.cell? ⟨(ad.add (i.toNat * 3)).block, (ad.add (i.toNat * 3)).off + 1, none⟩ = some (.int .i64 (rd_T158 xs i).f1) ∧ w.cell? ⟨(ad.add (i.toNat * 3)).block, (ad.add (i.toNat * 3)).off + 2, none⟩ = some (.slice A2 (rd_T158 xs i).f2.length c2) ∧ (rd_T158 xs i).f2.length ≤ c2 ∧ (Kd.int .u8).C w A2 (rd_T158 xs i).f2.length (rd_T158 xs i).f2 := by
  obtain ⟨ad, c, e, _, hK, hc0⟩ := Kd.C_get h z158 i h0 h1
  have hc : ∀ j u, c[j]? = some u → w.cell? (ad.add (i.toNat * 3 + j)) = some u := hc0
  obtain ⟨A2, c2, rfl, l2, g2⟩ := k158_open hK
  exact ⟨ad, A2, c2, e, hc 0 _ rfl, by rw [← add_field _ _ 1 (by omega)]; exact hc 1 _ rfl, by rw [← add_field _ _ 2 (by omega)]; exact hc 2 _ rfl, l2, g2⟩

/-! #### struct type 30 -/
structure S30 where
  f0 : (List Int)
  f1 : Int
  f2 : Int
  f3 : Int
  f4 : Int
  f5 : Int
  f6 : Int

/-! #### struct type 63 -/
structure S63 where
  f0 : Int
  f1 : Int
  f2 : Int
  f3 : Int
  f4 : (List S124)
  f5 : (List S156)
  f6 : (List ByteArray)
  f7 : (List S158)
def z63 : S63 := ⟨(0 : Int), (0 : Int), (0 : Int), (0 : Int), ([] : List S124), ([] : List S156), ([] : List ByteArray), ([] : List S158)⟩
def rd_T63 (xs : List S63) (i : Int) : S63 := xs.getD i.toNat z63

/-! #### struct type 165 -/
structure S165 where
  f0 : Int
  f1 : ByteArray
  f2 : (List S148)
  f3 : Int
def z165 : S165 := ⟨(0 : Int), (⟨#[]⟩ : ByteArray), ([] : List S148), (0 : Int)⟩
def k165 : Kd S165 := Kd.iso (Kd.pair (Kd.int .i64) (Kd.pair Kd.string (Kd.pair (Kd.slice 148 k148) (Kd.int .i64)))) (fun x : S165 => (x.f0, x.f1, x.f2, x.f3))
theorem k165_open {w : World} {x : S165} {cs : List Value} (h : k165.K w x cs) : ∃ A2 c2, cs = [.int .i64 x.f0, .string x.f1, .slice A2 x.f2.length c2, .int .i64 x.f3] ∧ x.f2.length ≤ c2 ∧ k148.C w A2 x.f2.length x.f2 := by
  obtain ⟨_, _, rfl, rfl, ⟨_, _, rfl, rfl, ⟨_, _, rfl, ⟨A2, c2, rfl, l2, g2⟩, rfl⟩⟩⟩ := h
  exact ⟨A2, c2, rfl, l2, g2⟩
def rd_T165 (xs : List S165) (i : Int) : S165 := xs.getD i.toNat z165
theorem at_T165 {w : World} {A : Option Addr} {n : Nat} {xs : List S165} (h : Kd.C k165 w A n xs) (i : Int) (h0 : 0 ≤ i) (h1 : i < n) : ∃ ad A2 c2, A = some ad ∧ w.cell? (ad.add (i.toNat * 4)) = some (.int .i64 (rd_T165 xs i).f0) ∧ w.cell? ⟨(ad.add (i.toNat * 4)).block, (ad.add (i.toNat * 4)).off + 1, none⟩ = some (.string (rd_T165 xs i).f1) ∧ w.cell? ⟨(ad.add (i.toNat * 4)).block, (ad.add (i.toNat * 4)).off + 2, none⟩ = some (.slice A2 (rd_T165 xs i).f2.length c2) ∧ w.cell? ⟨(ad.add (i.toNat * 4)).block, (ad.add (i.toNat * 4)).off + 3, none⟩ = some (.int .i64 (rd_T165 xs i).f3) ∧ (rd_T165 xs i).f2.length ≤ c2 ∧ k148.C w A2 (rd_T165 xs i).f2.length (rd_T165 xs i).f2 := by
  obtain ⟨ad, c, e, _, hK, hc0⟩ := Kd.C_get h z165 i h0 h1
  have hc : ∀ j u, c[j]? = some u → w.cell? (ad.add (i.toNat * 4 + j)) = some u := hc0
  obtain ⟨A2, c2, rfl, l2, g2⟩ := k165_open hK
  exact ⟨ad, A2, c2, e, hc 0 _ rfl, by rw [← add_field _ _ 1 (by omega)]; exact hc 1 _ rfl, by rw [← add_field _ _ 2 (by omega)]; exact hc 2 _ rfl, by rw [← add_field _ _ 3 (by omega)]; exact hc 3 _ rfl, l2, g2⟩

/-! #### struct type 167 -/
structure S167 where
  f0 : ByteArray
  f1 : Int
  f2 : (List Int)
def z167 : S167 := ⟨(⟨#[]⟩ : ByteArray), (0 : Int), ([] : List Int)⟩
def k167 : Kd S167 := Kd.iso (Kd.pair Kd.string (Kd.pair (Kd.int .i64) (Kd.slice 5 (Kd.int .u8)))) (fun x : S167 => (x.f0, x.f1, x.f2))
theorem k167_open {w : World} {x : S167} {cs : List Value} (h : k167.K w x cs) : ∃ A2 c2, cs = [.string x.f0, .int .i64 x.f1, .slice A2 x.f2.length c2] ∧ x.f2.length ≤ c2 ∧ (Kd.int .u8).C w A2 x.f2.length x.f2 := by
  obtain ⟨_, _, rfl, rfl, ⟨_, _, rfl, rfl, ⟨A2, c2, rfl, l2, g2⟩⟩⟩ := h
  exact ⟨A2, c2, rfl, l2, g2⟩
def rd_T167 (xs : List S167) (i : Int) : S167 := xs.getD i.toNat z167
theorem at_T167 {w : World} {A : Option Addr} {n : Nat} {xs : List S167} (h : Kd.C k167 w A n xs) (i : Int) (h0 : 0 ≤ i) (h1 : i < n) : ∃ ad A2 c2, A = some ad ∧ w.cell? (ad.add (i.toNat * 3)) = some (.string (rd_T167 xs i).f0) ∧ w.cell? ⟨(ad.add (i.toNat * 3)).block, (ad.add (i.toNat * 3)).off + 1, none⟩ = some (.int .i64 (rd_T167 xs i).f1) ∧ w.cell? ⟨(ad.add (i.toNat * 3)).block, (ad.add (i.toNat * 3)).off + 2, none⟩ = some (.slice A2 (rd_T167 xs i).f2.length c2) ∧ (rd_T167 xs i).f2.length ≤ c2 ∧ (Kd.int .u8).C w A2 (rd_T167 xs i).f2.length (rd_T167 xs i).f2 := by
  obtain ⟨ad, c, e, _, hK, hc0⟩ := Kd.C_get h z167 i h0 h1
  have hc : ∀ j u, c[j]? = some u → w.cell? (ad.add (i.toNat * 3 + j)) = some u := hc0
  obtain ⟨A2, c2, rfl, l2, g2⟩ := k167_open hK
  exact ⟨ad, A2, c2, e, hc 0 _ rfl, by rw [← add_field _ _ 1 (by omega)]; exact hc 1 _ rfl, by rw [← add_field _ _ 2 (by omega)]; exact hc 2 _ rfl, l2, g2⟩

/-! #### struct type 169 -/
structure S169 where
  f0 : Int
  f1 : Int
  f2 : (List Int)
def z169 : S169 := ⟨(0 : Int), (0 : Int), ([] : List Int)⟩
def k169 : Kd S169 := Kd.iso (Kd.pair (Kd.int .i64) (Kd.pair (Kd.int .i64) (Kd.slice 5 (Kd.int .u8)))) (fun x : S169 => (x.f0, x.f1, x.f2))
theorem k169_open {w : World} {x : S169} {cs : List Value} (h : k169.K w x cs) : ∃ A2 c2, cs = [.int .i64 x.f0, .int .i64 x.f1, .slice A2 x.f2.length c2] ∧ x.f2.length ≤ c2 ∧ (Kd.int .u8).C w A2 x.f2.length x.f2 := by
  obtain ⟨_, _, rfl, rfl, ⟨_, _, rfl, rfl, ⟨A2, c2, rfl, l2, g2⟩⟩⟩ := h
  exact ⟨A2, c2, rfl, l2, g2⟩
def rd_T169 (xs : List S169) (i : Int) : S169 := xs.getD i.toNat z169
theorem at_T169 {w : World} {A : Option Addr} {n : Nat} {xs : List S169} (h : Kd.C k169 w A n xs) (i : Int) (h0 : 0 ≤ i) (h1 : i < n) : ∃ ad A2 c2, A = some ad ∧ w.cell? (ad.add (i.toNat * 3)) = some (.int .i64 (rd_T169 xs i).f0) ∧ w.cell? ⟨(ad.add (i.toNat * 3)).block, (ad.add (i.toNat * 3)).off + 1, none⟩ = some (.int .i64 (rd_T169 xs i).f1) ∧ w.cell? ⟨(ad.add (i.toNat * 3)).block, (ad.add (i.toNat * 3)).off + 2, none⟩ = some (.slice A2 (rd_T169 xs i).f2.length c2) ∧ (rd_T169 xs i).f2.length ≤ c2 ∧ (Kd.int .u8).C w A2 (rd_T169 xs i).f2.length (rd_T169 xs i).f2 := by
  obtain ⟨ad, c, e, _, hK, hc0⟩ := Kd.C_get h z169 i h0 h1
  have hc : ∀ j u, c[j]? = some u → w.cell? (ad.add (i.toNat * 3 + j)) = some u := hc0
  obtain ⟨A2, c2, rfl, l2, g2⟩ := k169_open hK
  exact ⟨ad, A2, c2, e, hc 0 _ rfl, by rw [← add_field _ _ 1 (by omega)]; exact hc 1 _ rfl, by rw [← add_field _ _ 2 (by omega)]; exact hc 2 _ rfl, l2, g2⟩

/-! #### struct type 83 -/
structure S83 where
  f0 : Int
  f1 : Int
  f2 : Int
  f3 : Int
  f4 : (List S165)
  f5 : (List S167)
  f6 : (List ByteArray)
  f7 : (List S169)
end
section
def laws_szByteS.f (l0 : List Int) (a1 : Int) : Option (Int) := if (wrap64 (a1 - (l0.length : Int))) < 0 then (some (-1)) else (some (wrap64 (a1 - (l0.length : Int))))
set_option maxHeartbeats 8000000 in
set_option maxRecDepth 100000 in
theorem laws_szByteS.calls (A0 : Option Addr) (c0 : Nat) (l0 : List Int) (a1 : Int) (r : Int) (w : World) (hr0 : Kd.C (Kd.int .u8) w A0 l0.length l0) (hc0 : l0.length ≤ c0) (h : laws_szByteS.f l0 a1 = some r) :
    Calls Try.prog 65 #[.slice A0 l0.length c0, .int .i64 a1] w fun e w' => e = .returned (.int .i64 r) ∧ Drawn0 w w' := by
  have HR0 := Aside0.mk hr0; have HC0 := Aside0.mk hc0; clear hr0 hc0; have H : (if (wrap64 (a1 - (l0.length : Int))) < 0 then (some (-1)) else (some (wrap64 (a1 - (l0.length : Int))))) = some r := h; clear h
  by_cases c3 : (wrap64 (a1 - (l0.length : Int))) < 0
  · rw [if_pos c3] at H
    have c3b0 : decide ((wrap64 (a1 - (l0.length : Int))) < 0) = true := decide_eq_true c3; clear c3; obtain rfl := Option.some.inj H
    go_enter Try.func65, Try.ntmps65
    go_wp2
    go_ret
    exact ⟨by first | rfl | (simp; done) | (simp [*]; done), by repeat (first | exact Drawn0.refl _ | apply Drawn0.step)⟩
  · rw [if_neg c3] at H
    have c3b0 : decide ((wrap64 (a1 - (l0.length : Int))) < 0) = false := decide_eq_false c3; clear c3; obtain rfl := Option.some.inj H
    go_enter Try.func65, Try.ntmps65
    go_wp2
    go_ret
    exact ⟨by first | rfl | (simp; done) | (simp [*]; done), by repeat (first | exact Drawn0.refl _ | apply Drawn0.step)⟩
end
section
def laws_szTenCfg.f (l0_0 : List Int) (a0_1 : Int) (a0_2 : Int) (a0_3 : Int) (a0_4 : Int) (a0_5 : Int) (a0_6 : Int) (a1 : Int) : Option (Int) := (laws_szByteS.f l0_0 a1).bind fun t102 => (if t102 < 0 then (some (-1)) else (some t102))
set_option maxHeartbeats 8000000 in
set_option maxRecDepth 100000 in
theorem laws_szTenCfg.calls (A0_0 : Option Addr) (c0_0 : Nat) (l0_0 : List Int) (a0_1 : Int) (a0_2 : Int) (a0_3 : Int) (a0_4 : Int) (a0_5 : Int) (a0_6 : Int) (a1 : Int) (r : Int) (w : World) (hr0_0 : Kd.C (Kd.int .u8) w A0_0 l0_0.length l0_0) (hc0_0 : l0_0.length ≤ c0_0) (h : laws_szTenCfg.f l0_0 a0_1 a0_2 a0_3 a0_4 a0_5 a0_6 a1 = some r) :
    Calls Try.prog 17 #[.agg #[.slice A0_0 l0_0.length c0_0, .int .i64 a0_1, .int .i64 a0_2, .int .i64 a0_3, .int .i64 a0_4, .int .i64 a0_5, .int .i64 a0_6], .int .i64 a1] w fun e w' => e = .returned (.int .i64 r) ∧ Below w.heap.size w w' := by
  have hu30 := Try.underlying30; have HR0_0 := Aside0.mk hr0_0; have HC0_0 := Aside0.mk hc0_0; clear hr0_0 hc0_0; have HB := Aside0.mk (Below.refl w.heap.size w); have H : ((laws_szByteS.f l0_0 a1).bind fun t102 => (if t102 < 0 then (some (-1)) else (some t102))) = some r := h; clear h; obtain ⟨t102, A3, H⟩ := bindA H; (try dsimp only at H)
  by_cases c4 : t102 < 0
  · rw [if_pos c4] at H
    have c4b0 : decide (t102 < 0) = true := decide_eq_true c4; clear c4; obtain rfl := Option.some.inj H
    go_enter Try.func17, Try.ntmps17
    go_wp2_with (first | ((with_reducible refine gd_ 2 rfl ?_); refine bx_ 2 rfl #[.slice A0_0 l0_0.length c0_0, .int .i64 a0_1, .int .i64 a0_2, .int .i64 a0_3, .int .i64 a0_4, .int .i64 a0_5, .int .i64 a0_6] 30 ?_; intro gb101 hg w5 hbox hb; have BK101 := Aside0.mk (hbox); have GW101 := Aside0.mk ((by rw [hg]; exact (below_size (upH HB.out)) : w.heap.size ≤ gb101)); replace HB := Aside0.mk (below_step (upH HB.out) hb); have GE101 := GW101; clear hb hbox hg; obtain ⟨hcz6_0, hcz6_1, hcz6_2, hcz6_3, hcz6_4, hcz6_5, hcz6_6⟩ := cc7_ BK101.out; obtain ⟨hfz6_0, hfz6_1, hfz6_2, hfz6_3, hfz6_4, hfz6_5⟩ := cf6_ BK101.out; have hfz6_6 := blk_frozen BK101.out 6) | ((with_reducible refine gc_ 65 rfl ?_); refine gl_ (some 8) rfl Try.func65 #[.slice A0_0 l0_0.length c0_0, .int .i64 a1] ?_; (with_reducible refine (laws_szByteS.calls _ _ l0_0 a1 t102 _ ?side1 ?side2 A3.out).mono ?_); (case side1 => repeat (first | exact (Kd.C_below HR0_0.out HB.out) | (with_reducible refine Kd.C_alloc ?_ _) | (with_reducible refine Kd.C_drewN ?_ _) | (with_reducible refine Kd.C_drew ?_))); (case side2 => exact HC0_0.out); rintro e w' ⟨rfl, ⟨nd, rfl⟩⟩; refine ⟨_, rfl, ?_⟩))
    go_ret
    exact ⟨by first | rfl | (simp [*, errW_none, errW_some] <;> rfl), by repeat (with_reducible first | exact HB.out | apply below_alloc | apply pw_below_drewN | apply below_drew1 | refine below_set ?_ (Aside0.out ‹_›))⟩
  · rw [if_neg c4] at H
    have c4b0 : decide (t102 < 0) = false := decide_eq_false c4; clear c4; obtain rfl := Option.some.inj H
    go_enter Try.func17, Try.ntmps17
    go_wp2_with (first | ((with_reducible refine gd_ 2 rfl ?_); refine bx_ 2 rfl #[.slice A0_0 l0_0.length c0_0, .int .i64 a0_1, .int .i64 a0_2, .int .i64 a0_3, .int .i64 a0_4, .int .i64 a0_5, .int .i64 a0_6] 30 ?_; intro gb101 hg w7 hbox hb; have BK101 := Aside0.mk (hbox); have GW101 := Aside0.mk ((by rw [hg]; exact (below_size (upH HB.out)) : w.heap.size ≤ gb101)); replace HB := Aside0.mk (below_step (upH HB.out) hb); have GE101 := GW101; clear hb hbox hg; obtain ⟨hcz8_0, hcz8_1, hcz8_2, hcz8_3, hcz8_4, hcz8_5, hcz8_6⟩ := cc7_ BK101.out; obtain ⟨hfz8_0, hfz8_1, hfz8_2, hfz8_3, hfz8_4, hfz8_5⟩ := cf6_ BK101.out; have hfz8_6 := blk_frozen BK101.out 6) | ((with_reducible refine gc_ 65 rfl ?_); refine gl_ (some 8) rfl Try.func65 #[.slice A0_0 l0_0.length c0_0, .int .i64 a1] ?_; (with_reducible refine (laws_szByteS.calls _ _ l0_0 a1 t102 _ ?side1 ?side2 A3.out).mono ?_); (case side1 => repeat (first | exact (Kd.C_below HR0_0.out HB.out) | (with_reducible refine Kd.C_alloc ?_ _) | (with_reducible refine Kd.C_drewN ?_ _) | (with_reducible refine Kd.C_drew ?_))); (case side2 => exact HC0_0.out); rintro e w' ⟨rfl, ⟨nd, rfl⟩⟩; refine ⟨_, rfl, ?_⟩))
    go_ret
    exact ⟨by first | rfl | (simp [*, errW_none, errW_some] <;> rfl), by repeat (with_reducible first | exact HB.out | apply below_alloc | apply pw_below_drewN | apply below_drew1 | refine below_set ?_ (Aside0.out ‹_›))⟩
end
section
def laws_toByteS.l0 : Nat → List Int → List Int → Int → Option (List Int)
 | 0, _, _, _ => none
 | k + 1, x0, x3, x4 => if x4 < (x0.length : Int) then (if 0 ≤ x4 then (if x4 < (x3.length : Int) then (laws_toByteS.l0 k x0 (x3.set (x4 : Int).toNat (rd x0 x4)) (wrap64 (x4 + 1))) else (none)) else (none)) else (some x3)
def laws_toByteS.f (k : Nat) (l0 : List Int) : Option (List Int) := if 0 ≤ (l0.length : Int) then (if ((l0.length : Int) : Int).toNat ≤ 281474976710656 then (laws_toByteS.l0 k l0 (List.replicate ((l0.length : Int) : Int).toNat 0) 0) else (none)) else (none)
set_option maxHeartbeats 8000000 in
set_option maxRecDepth 100000 in
theorem laws_toByteS.calls (k : Nat) (A0 : Option Addr) (c0 : Nat) (l0 : List Int) (r : List Int) (w : World) (hr0 : Kd.C (Kd.int .u8) w A0 l0.length l0) (hc0 : l0.length ≤ c0) (h : laws_toByteS.f k l0 = some r) :
  Calls Try.prog 66 #[.slice A0 l0.length c0] w fun e w' => ∃ v0_ : Value, e = .returned (v0_) ∧ Kd.R (Kd.int .u8) 5 w' w.heap.size (fun _ => True) v0_ r ∧ Below w.heap.size w w' := by
 have HR0 := Aside0.mk hr0; have HC0 := Aside0.mk hc0; clear hr0 hc0; have HB := Aside0.mk (Below.refl w.heap.size w); have H : (if 0 ≤ (l0.length : Int) then (if ((l0.length : Int) : Int).toNat ≤ 281474976710656 then (laws_toByteS.l0 k l0 (List.replicate ((l0.length : Int) : Int).toNat 0) 0) else (none)) else (none)) = some r := h; clear h
 by_cases c2 : 0 ≤ (l0.length : Int)
 ·
  rw [if_pos c2] at H
  have a6 := eq_true c2; replace c2 := decide_eq_true c2
  by_cases c3 : ((l0.length : Int) : Int).toNat ≤ 281474976710656
  ·
   rw [if_pos c3] at H
   have a7 := eq_true c3; replace c3 := decide_eq_true c3; obtain ⟨y101, hy101⟩ : ∃ y_ : List Int, y_ = (List.replicate ((l0.length : Int) : Int).toNat 0) := ⟨_, rfl⟩
   replace H : (laws_toByteS.l0 k l0 y101 0) = some r := by first | (rw [hy101]; with_reducible exact H) | (have H2_ := (Option.bind_some _ _).symm.trans H; rw [hy101]; with_reducible exact H2_) | (have H2_ := (Option.bind_some _ _).symm.trans H; with_reducible exact H2_) | with_reducible exact H | (rw [hy101]; exact H) | exact H
   have Ny101 := Aside0.mk hy101; clear hy101; have H' := Aside0.mk H; clear H
   go_enter Try.func66, Try.ntmps66
   go_wp2_with (first | ((with_reducible refine gd_ 7 rfl ?_); refine Kd.R_make (Kd.int .u8) _ 5 rfl (N := 7) rfl 22 _ _ rfl (l0.length : Int) rfl rfl Try.underlying22 (.int .u8 0) 1 info5 rfl (by decide) (by omega) 0 (ok := fun _ => True) (okp := fun _ => True) rfl (fun _ hk => hk) trivial (of_decide_eq_true (by first | (with_reducible assumption) | assumption)) (Nat.le_trans (Nat.mul_le_mul_right _ (of_decide_eq_true (by first | (with_reducible assumption) | assumption) : (l0.length : Int).toNat ≤ 281474976710656)) (by omega)) (Below.refl _ _) (Nat.le_refl _) ?_; intro a8 w4 ho5 hb hg_ hnew_; clear hg_ hnew_; (first | rw [← Ny101.out] at ho5 | (simp only [Int.reduceToNat] at ho5; rw [← Ny101.out] at ho5)); have a5 := Aside0.mk (Kd.R_lower ho5 (below_size (upH HB.out))); replace HB := Aside0.mk (below_step (upH HB.out) hb); clear hb ho5))
   (try simp only [Act.put, List.setIfInBounds_toArray, List.set_cons_zero, List.set_cons_succ])
   go_loopg [4] k (fun kq v4 w' => ∃ (a4 : List Int) (a1 : Int), v4 = .int .i64 a1 ∧ Aside0 (laws_toByteS.l0 kq l0 a4 a1 = some r) ∧ Aside0 (kq ≤ k) ∧ Aside0 (Kd.R (Kd.int .u8) 5 w' w.heap.size (fun _ => True) a8 a4) ∧ Aside0 (Below w.heap.size w w'))
   case atStart => exact ⟨(y101), (0), (by first | rfl | (simp; done) | (simp [*]; done)), H', ⟨Nat.le_refl _⟩, ⟨by first | exact a5.out | exact upR a5.out⟩, ⟨upH HB.out⟩⟩
   case round =>
    clear H'; (try clear c2); (try clear a6); (try clear c2b1); (try clear p2); (try clear c3); (try clear a7); (try clear c3b1); obtain ⟨a4, a1, rfl, HA, HK1, a3, HB⟩ := hrel
    cases gk with
    | zero => exact absurd HA.out (by simp [laws_toByteS.l0])
    | succ k1 =>
     have H := HA.out; clear HA
     simp only [laws_toByteS.l0] at H
     by_cases c6 : a1 < (l0.length : Int)
     ·
      rw [if_pos c6] at H
      have a9 : decide (a1 < (l0.length : Int)) = true := decide_eq_true c6; clear c6
      by_cases c7 : 0 ≤ a1
      ·
       rw [if_pos c7] at H
       replace c7 := decide_eq_true c7
       by_cases c8 : a1 < (a4.length : Int)
       ·
        rw [if_pos c8] at H
        replace c8 := decide_eq_true c8; obtain ⟨y105, hy105⟩ : ∃ y_ : List Int, y_ = (a4.set (a1 : Int).toNat (rd l0 a1)) := ⟨_, rfl⟩
        replace H : (laws_toByteS.l0 k1 l0 y105 (wrap64 (a1 + 1))) = some r := by first | (rw [hy105]; with_reducible exact H) | (have H2_ := (Option.bind_some _ _).symm.trans H; rw [hy105]; with_reducible exact H2_) | (have H2_ := (Option.bind_some _ _).symm.trans H; with_reducible exact H2_) | with_reducible exact H | (rw [hy105]; exact H) | exact H
        have Ny105 := Aside0.mk hy105; clear hy105; have H' := Aside0.mk H; clear H
        have p104 : 0 ≤ (a1 : Int) := of_decide_eq_true (by first | (with_reducible assumption) | assumption)
        have q104 : a1 < (l0.length : Int) := of_decide_eq_true (by first | (with_reducible assumption) | assumption)
        obtain ⟨ad104, b0, a2⟩ := Kd.at_int HR0.out a1 p104 q104
        cases b0
        replace a2 := (HB.out.cell (World.block_lt_of_cell? w _ a2)).trans a2; replace p104 := eq_true p104; replace q104 := eq_true q104
        have p9 : 0 ≤ (a1 : Int) := of_decide_eq_true (by first | (with_reducible assumption) | assumption)
        have q9 : (a1 : Int) < ((a4.length : Int) : Int) := of_decide_eq_true (by first | (with_reducible assumption) | assumption)
        obtain ⟨go9, co9, eo9, gb9, gl9, cl9, HG9⟩ := Kd.R_form a3.out (by omega)
        (first | cases eo9 | (injection eo9 with ea_ en_ ec_; (first | subst ea_ | (injection ea_ with ea_; subst ea_)); subst ec_; clear en_))
        have GB9 := Aside0.mk gb9; have GG9 := Aside0.mk HG9; clear gb9 gl9 HG9; obtain ⟨b1, hf9_0⟩ := Kd.R_celln 0 a3.out (a1 : Int) p9 q9; replace p9 := eq_true p9; replace q9 := eq_true q9; have HP10 := Kd.R_putg a3.out (a1 : Int) (rd l0 a1)
        go_wp2_with (first | ((with_reducible refine gate_store (t := 5) (p := 20) rfl ?_); refine store_event (t := 5) (p := 20) (v := ?vo_w11) (w1 := (wr.setCell ⟨go9, (a1 : Int).toNat, none⟩ (.int .u8 (rd l0 a1)))) ?hg ?ho ?hn ?hr ?_; (case ho => rfl); (case hg => rfl); (case hn => rfl); (case hr => first | (go_simp; done) | (go_simp; rfl)); intro w11 hw; have hg : wr.grownBy w11 (some go9) := (by rw [hw]; exact HP10.2); have hp_ : Kd.R (Kd.int .u8) 5 w11 w.heap.size (fun _ => True) (.slice (some ⟨go9, 0, none⟩) a4.length co9) y105 := (by rw [hw, Ny105.out]; exact HP10.1); clear HP10; replace a3 := Aside0.mk (hp_); replace HB := Aside0.mk ((by rw [hw]; exact below_set (HB.out) GB9.out : Below w.heap.size w w11)); clear hg hw hp_))
        go_roundg k1
        case measure => have := HK1.out; omega
        case rel => exact ⟨(y105), (wrap64 (a1 + 1)), (by first | rfl | (simp; done) | (simp [*]; done)), H', ⟨by have := HK1.out; omega⟩, ⟨by first | exact a3.out | exact upR a3.out⟩, ⟨upH HB.out⟩⟩
       ·
        rw [if_neg c8] at H
        exact absurd H (by simp)
      ·
       rw [if_neg c7] at H
       exact absurd H (by simp)
     ·
      rw [if_neg c6] at H
      have a9 : decide (a1 < (l0.length : Int)) = false := decide_eq_false c6; clear c6; obtain rfl := Option.some.inj H
      go_wp2
      go_ret
      exact ⟨_, by first | rfl | (simp [*, errW_none, errW_some] <;> rfl), by first | exact a3.out | exact upR a3.out, upH HB.out⟩
  ·
   rw [if_neg c3] at H
   exact absurd H (by simp)
 ·
  rw [if_neg c2] at H
  exact absurd H (by simp)
end
section
open Go.Proofs.YtgpkkkmapgnhkaaW.PrintWords.Aside0 renaming mk → yaa

def laws_toTenCfg.f (k : Nat) (l0_0 : List Int) (a0_1 : Int) (a0_2 : Int) (a0_3 : Int) (a0_4 : Int) (a0_5 : Int) (a0_6 : Int) : Option (List Int × Int × Int × Int × Int × Int × Int) := (laws_toByteS.f k l0_0).bind fun t104 => (some (t104, a0_1, a0_2, a0_3, a0_4, a0_5, a0_6))
set_option maxHeartbeats 8000000 in
set_option maxRecDepth 100000 in
theorem laws_toTenCfg.calls (k : Nat) (A0_0 : Option Addr) (c0_0 : Nat) (l0_0 : List Int) (a0_1 : Int) (a0_2 : Int) (a0_3 : Int) (a0_4 : Int) (a0_5 : Int) (a0_6 : Int) (r1 : List Int) (r2 : Int) (r3 : Int) (r4 : Int) (r5 : Int) (r6 : Int) (r7 : Int) (w : World) (hr0_0 : Kd.C (Kd.int .u8) w A0_0 l0_0.length l0_0) (hc0_0 : l0_0.length ≤ c0_0) (h : laws_toTenCfg.f k l0_0 a0_1 a0_2 a0_3 a0_4 a0_5 a0_6 = some (r1, r2, r3, r4, r5, r6, r7)) :
  Calls Try.prog 18 #[.agg #[.slice A0_0 l0_0.length c0_0, .int .i64 a0_1, .int .i64 a0_2, .int .i64 a0_3, .int .i64 a0_4, .int .i64 a0_5, .int .i64 a0_6]] w fun e w' => ∃ v0_ : Value, e = .returned (.agg #[v0_, .int .i64 r2, .int .i64 r3, .int .i64 r4, .int .i64 r5, .int .i64 r6, .int .i64 r7]) ∧ Kd.R (Kd.int .u8) 5 w' w.heap.size (fun _ => True) v0_ r1 ∧ Below w.heap.size w w' := by
 have hu30 := Try.underlying30; have hu24 := Try.underlying24; have HR0_0 := yaa hr0_0; have HC0_0 := yaa hc0_0; clear hr0_0 hc0_0; have HB := yaa (Below.refl w.heap.size w); have H : ((laws_toByteS.f k l0_0).bind fun b2 => (some (b2, a0_1, a0_2, a0_3, a0_4, a0_5, a0_6))) = some (r1, r2, r3, r4, r5, r6, r7) := h; clear h; obtain ⟨b2, A2, H⟩ := bindA H; (try dsimp only at H)
 simp only [Option.some.injEq, Prod.mk.injEq] at H
 obtain ⟨rfl, rfl, rfl, rfl, rfl, rfl, rfl⟩ := H
 go_enter Try.func18, Try.ntmps18
 go_wp2_with (first | ((with_reducible refine gd_ 1 rfl ?_); refine bx_ 1 rfl #[.slice A0_0 l0_0.length c0_0, .int .i64 a0_1, .int .i64 a0_2, .int .i64 a0_3, .int .i64 a0_4, .int .i64 a0_5, .int .i64 a0_6] 30 ?_; intro c1 hg w3 hbox hb; have a8 := yaa (hbox); have c4 := yaa ((by rw [hg]; exact (below_size (upH HB.out)) : w.heap.size ≤ c1)); replace HB := yaa (below_step (upH HB.out) hb); have i6 := c4; clear hb hbox hg) | ((with_reducible refine gd_ 2 rfl ?_); refine bx_ 2 rfl #[.slice none 0 0, .int .i64 0, .int .i64 0, .int .i64 0, .int .i64 0, .int .i64 0, .int .i64 0] 24 ?_; intro a9 hg w4 hbox hb; have b0 := yaa (hbox); have c5 := yaa ((by rw [hg]; exact (below_size (by repeat (with_reducible first | exact HB.out | apply below_alloc | apply pw_below_drewN | apply below_drew1 | refine below_set ?_ (Aside0.out ‹_›)))) : w.heap.size ≤ a9)); replace HB := yaa (below_step (by repeat (with_reducible first | exact HB.out | apply below_alloc | apply pw_below_drewN | apply below_drew1 | refine below_set ?_ (Aside0.out ‹_›))) hb); have i7 := c5; have b3 := yaa ((by rw [hg]; exact Nat.ne_of_lt (blk_lt (upB a8.out)) : c1 ≠ a9)); replace a8 := yaa (blk_below (upB a8.out) hb); have b8 := yaa b3.out.symm; clear hb hbox hg) | ((with_reducible refine gd_ 3 rfl ?_); refine bx_ 3 rfl #[.slice none 0 0, .int .i64 0, .int .i64 0, .int .i64 0, .int .i64 0, .int .i64 0, .int .i64 0] 24 ?_; intro b1 hg w5 hbox hb; have b7 := yaa (hbox); have c6 := yaa ((by rw [hg]; exact (below_size (by repeat (with_reducible first | exact HB.out | apply below_alloc | apply pw_below_drewN | apply below_drew1 | refine below_set ?_ (Aside0.out ‹_›)))) : w.heap.size ≤ b1)); replace HB := yaa (below_step (by repeat (with_reducible first | exact HB.out | apply below_alloc | apply pw_below_drewN | apply below_drew1 | refine below_set ?_ (Aside0.out ‹_›))) hb); have i8 := c6; have b4 := yaa ((by rw [hg]; exact Nat.ne_of_lt (blk_lt (upB a8.out)) : c1 ≠ b1)); replace a8 := yaa (blk_below (upB a8.out) hb); have b9 := yaa b4.out.symm; have a7 := yaa ((by rw [hg]; exact Nat.ne_of_lt (blk_lt (upB b0.out)) : a9 ≠ b1)); replace b0 := yaa (blk_below (upB b0.out) hb); have c0 := yaa a7.out.symm; clear hb hbox hg; have j1 := b3.out; have j2 := b8.out; have j3 := b4.out; have j4 := b9.out; obtain ⟨g9, h0, h1, h2, h3, h4, h5⟩ := cc7_ a8.out; obtain ⟨h6, h7, h8, h9, i0, i1⟩ := cf6_ a8.out; have i3 := blk_frozen a8.out 6) | ((with_reducible refine gc_ 66 rfl ?_); refine gl_ (some 6) rfl Try.func66 #[.slice A0_0 l0_0.length c0_0] ?_; (with_reducible refine (laws_toByteS.calls k _ _ l0_0 b2 _ ?side1 ?side2 A2.out).mono ?_); (case side1 => repeat (first | exact (Kd.C_below HR0_0.out HB.out) | (with_reducible refine Kd.C_alloc ?_ _) | (with_reducible refine Kd.C_drewN ?_ _) | (with_reducible refine Kd.C_drew ?_))); (case side2 => exact HC0_0.out); rintro e w9 ⟨j5, rfl, ho0, hb⟩; refine ⟨_, rfl, ?_⟩; have c2 := yaa (Kd.R_lower ho0 (below_size (by repeat (with_reducible first | exact HB.out | apply below_alloc | apply pw_below_drewN | apply below_drew1 | refine below_set ?_ (Aside0.out ‹_›))))); replace a8 := yaa (blk_below (upB a8.out) hb); replace b0 := yaa (blk_below (upB b0.out) hb); replace b7 := yaa (blk_below (upB b7.out) hb); replace HB := yaa (below_step (by repeat (with_reducible first | exact HB.out | apply below_alloc | apply pw_below_drewN | apply below_drew1 | refine below_set ?_ (Aside0.out ‹_›))) hb); (try clear hb ho0); obtain ⟨b5, b6, i4⟩ := Kd.R_slice c2.out; subst i4; have i9 := c0.out; have j0 := a7.out; obtain ⟨c7, c8, c9, d0, d1, d2, d3⟩ := cc7_ b7.out; obtain ⟨d4, d5, d6, d7, d8, d9, e0⟩ := cf7_ b7.out; obtain ⟨e1, e2, e3, e4, e5, e6, e7⟩ := cc7_ a8.out; obtain ⟨e8, e9, f0, f1, f2, f3, f4⟩ := cf7_ a8.out; obtain ⟨f5, f6, f7, f8, f9, g0, g1⟩ := cc7_ b0.out; obtain ⟨g2, g3, g4, g5, g6, g7⟩ := cf6_ b0.out; have g8 := blk_frozen b0.out 6))
 refine bodyPost_ret (results_cell_row rfl _ _ a9 24 #[.slice b5 b2.length b6, .int .i64 a0_1, .int .i64 a0_2, .int .i64 a0_3, .int .i64 a0_4, .int .i64 a0_5, .int .i64 a0_6] (0, 0) _ rfl (by (repeat refine oneB ?_); refine blk_put (cs := #[.slice b5 b2.length b6, .int .i64 a0_1, .int .i64 a0_2, .int .i64 a0_3, .int .i64 a0_4, .int .i64 a0_5, .int .i64 0]) ?_ 6 _ rfl; refine blk_put (cs := #[.slice b5 b2.length b6, .int .i64 a0_1, .int .i64 a0_2, .int .i64 a0_3, .int .i64 a0_4, .int .i64 0, .int .i64 0]) ?_ 5 _ rfl; refine blk_put (cs := #[.slice b5 b2.length b6, .int .i64 a0_1, .int .i64 a0_2, .int .i64 a0_3, .int .i64 0, .int .i64 0, .int .i64 0]) ?_ 4 _ rfl; refine blk_put (cs := #[.slice b5 b2.length b6, .int .i64 a0_1, .int .i64 a0_2, .int .i64 0, .int .i64 0, .int .i64 0, .int .i64 0]) ?_ 3 _ rfl; refine blk_put (cs := #[.slice b5 b2.length b6, .int .i64 a0_1, .int .i64 0, .int .i64 0, .int .i64 0, .int .i64 0, .int .i64 0]) ?_ 2 _ rfl; refine blk_put (cs := #[.slice b5 b2.length b6, .int .i64 0, .int .i64 0, .int .i64 0, .int .i64 0, .int .i64 0, .int .i64 0]) ?_ 1 _ rfl; refine blk_put (cs := #[.slice none 0 0, .int .i64 0, .int .i64 0, .int .i64 0, .int .i64 0, .int .i64 0, .int .i64 0]) ?_ 0 _ rfl; (repeat refine oneB ?_); refine blk_far ?_ a7.out _; (repeat refine oneB ?_); refine blk_far ?_ a7.out _; (repeat refine oneB ?_); refine blk_far ?_ a7.out _; (repeat refine oneB ?_); refine blk_far ?_ a7.out _; (repeat refine oneB ?_); refine blk_far ?_ a7.out _; (repeat refine oneB ?_); refine blk_far ?_ a7.out _; (repeat refine oneB ?_); refine blk_far ?_ a7.out _; exact upB b0.out) Try.underlying24 rfl (by kernel_rfl)) rfl ?_
 exact ⟨_, by first | rfl | (simp [*, errW_none, errW_some] <;> rfl), by (with_reducible repeat (first | apply Kd.R_alloc | apply Kd.R_drewN | apply Kd.R_drew)); exact Kd.R_mono (Kd.R_far (p := ⟨a9, 6, none⟩) (Kd.R_far (p := ⟨a9, 5, none⟩) (Kd.R_far (p := ⟨a9, 4, none⟩) (Kd.R_far (p := ⟨a9, 3, none⟩) (Kd.R_far (p := ⟨a9, 2, none⟩) (Kd.R_far (p := ⟨a9, 1, none⟩) (Kd.R_far (p := ⟨a9, 0, none⟩) (Kd.R_far (p := ⟨b1, 6, none⟩) (Kd.R_far (p := ⟨b1, 5, none⟩) (Kd.R_far (p := ⟨b1, 4, none⟩) (Kd.R_far (p := ⟨b1, 3, none⟩) (Kd.R_far (p := ⟨b1, 2, none⟩) (Kd.R_far (p := ⟨b1, 1, none⟩) (Kd.R_far (p := ⟨b1, 0, none⟩) (Kd.R_types (Kd.R_types c2.out b7.out (by decide)) b0.out (by decide)) (fun _ hk => hk.1.2) (.slice b5 b2.length b6)) (fun _ hk => hk.1.2) (.int .i64 a0_1)) (fun _ hk => hk.1.2) (.int .i64 a0_2)) (fun _ hk => hk.1.2) (.int .i64 a0_3)) (fun _ hk => hk.1.2) (.int .i64 a0_4)) (fun _ hk => hk.1.2) (.int .i64 a0_5)) (fun _ hk => hk.1.2) (.int .i64 a0_6)) (fun _ hk => hk.2) (.slice b5 b2.length b6)) (fun _ hk => hk.2) (.int .i64 a0_1)) (fun _ hk => hk.2) (.int .i64 a0_2)) (fun _ hk => hk.2) (.int .i64 a0_3)) (fun _ hk => hk.2) (.int .i64 a0_4)) (fun _ hk => hk.2) (.int .i64 a0_5)) (fun _ hk => hk.2) (.int .i64 a0_6)) (fun _ hk => trivial), by repeat (with_reducible first | exact HB.out | apply below_alloc | apply pw_below_drewN | apply below_drew1 | refine below_set ?_ (Aside0.out ‹_›))⟩
end
section
def laws_eqByteS.l0 : Nat → List Int → List Int → Int → Option (Bool)
 | 0, _, _, _ => none
 | k + 1, x0, x1, x5 => if x5 < (x0.length : Int) then (if 0 ≤ x5 then (if x5 < (x1.length : Int) then (if (rd x0 x5) = (rd x1 x5) then (laws_eqByteS.l0 k x0 x1 (wrap64 (x5 + 1))) else (some false)) else (none)) else (none)) else (some true)
def laws_eqByteS.f (k : Nat) (l0 : List Int) (l1 : List Int) : Option (Bool) := if (l0.length : Int) = (l1.length : Int) then (laws_eqByteS.l0 k l0 l1 0) else (some false)
set_option maxHeartbeats 8000000 in
set_option maxRecDepth 100000 in
theorem laws_eqByteS.calls (k : Nat) (A0 : Option Addr) (c0 : Nat) (l0 : List Int) (A1 : Option Addr) (c1 : Nat) (l1 : List Int) (r : Bool) (w : World) (hr0 : Kd.C (Kd.int .u8) w A0 l0.length l0) (hc0 : l0.length ≤ c0) (hr1 : Kd.C (Kd.int .u8) w A1 l1.length l1) (hc1 : l1.length ≤ c1) (h : laws_eqByteS.f k l0 l1 = some r) :
  Calls Try.prog 67 #[.slice A0 l0.length c0, .slice A1 l1.length c1] w fun e w' => e = .returned (.bool r) ∧ Drawn0 w w' := by
 have HR0 := Aside0.mk hr0; have HC0 := Aside0.mk hc0; clear hr0 hc0; have HR1 := Aside0.mk hr1; have HC1 := Aside0.mk hc1; clear hr1 hc1; have H : (if (l0.length : Int) = (l1.length : Int) then (laws_eqByteS.l0 k l0 l1 0) else (some false)) = some r := h; clear h
 by_cases c3 : (l0.length : Int) = (l1.length : Int)
 ·
  rw [if_pos c3] at H
  have a7 := beq_iff_eq.mpr c3; have a8 := bne_eq_false_iff_eq.mpr c3
  have a9 : (l0.length == l1.length) = true := by first | simpa using c3 | (simp at c3 ⊢; omega)
  clear c3; have H' := Aside0.mk H; clear H
  go_enter Try.func67, Try.ntmps67
  go_wp2
  repeat (go_quiet (fail); try go_wp2)
  (try simp only [Act.put, List.setIfInBounds_toArray, List.set_cons_zero, List.set_cons_succ])
  go_loopg [5] k (fun kq v5 w' => ∃ (a2 : Int), v5 = .int .i64 a2 ∧ Aside0 (laws_eqByteS.l0 kq l0 l1 a2 = some r) ∧ Aside0 (kq ≤ k) ∧ Drawn0 w w')
  case atStart => exact ⟨(0), (by first | rfl | (simp; done) | (simp [*]; done)), H', ⟨Nat.le_refl _⟩, by repeat (first | exact Drawn0.refl _ | apply Drawn0.step)⟩
  case round =>
   clear H'; (try clear c1); (try clear p2); (try clear c3); (try clear a7); (try clear a8); (try clear a9); obtain ⟨a2, rfl, HA, HK1, ⟨m1, rfl⟩⟩ := hrel
   cases gk with
   | zero => exact absurd HA.out (by simp [laws_eqByteS.l0])
   | succ k1 =>
    have H := HA.out; clear HA
    simp only [laws_eqByteS.l0] at H
    by_cases c4 : a2 < (l0.length : Int)
    ·
     rw [if_pos c4] at H
     have b0 : decide (a2 < (l0.length : Int)) = true := decide_eq_true c4; clear c4
     by_cases c5 : 0 ≤ a2
     ·
      rw [if_pos c5] at H
      replace c5 := decide_eq_true c5
      by_cases c6 : a2 < (l1.length : Int)
      ·
       rw [if_pos c6] at H
       replace c6 := decide_eq_true c6
       by_cases c7 : (rd l0 a2) = (rd l1 a2)
       ·
        rw [if_pos c7] at H
        have b1 := beq_iff_eq.mpr c7; have b2 := bne_eq_false_iff_eq.mpr c7; clear c7; have H' := Aside0.mk H; clear H
        have p101 : 0 ≤ (a2 : Int) := of_decide_eq_true (by first | (with_reducible assumption) | assumption)
        have q101 : a2 < (l0.length : Int) := of_decide_eq_true (by first | (with_reducible assumption) | assumption)
        obtain ⟨ad101, a5, a3⟩ := Kd.at_int HR0.out a2 p101 q101
        cases a5
        replace p101 := eq_true p101; replace q101 := eq_true q101
        have p102 : 0 ≤ (a2 : Int) := of_decide_eq_true (by first | (with_reducible assumption) | assumption)
        have q102 : a2 < (l1.length : Int) := of_decide_eq_true (by first | (with_reducible assumption) | assumption)
        obtain ⟨ad102, a6, a4⟩ := Kd.at_int HR1.out a2 p102 q102
        cases a6
        replace p102 := eq_true p102; replace q102 := eq_true q102
        go_wp2
        repeat (go_quiet (fail); try go_wp2)
        go_roundg k1
        case measure => have := HK1.out; omega
        case rel => exact ⟨(wrap64 (a2 + 1)), (by first | rfl | (simp; done) | (simp [*]; done)), H', ⟨by have := HK1.out; omega⟩, by repeat (first | exact Drawn0.refl _ | apply Drawn0.step)⟩
       ·
        rw [if_neg c7] at H
        have b1 := beq_eq_false_iff_ne.mpr c7; have b2 := bne_iff_ne.mpr c7; obtain rfl := Option.some.inj H
        have p101 : 0 ≤ (a2 : Int) := of_decide_eq_true (by first | (with_reducible assumption) | assumption)
        have q101 : a2 < (l0.length : Int) := of_decide_eq_true (by first | (with_reducible assumption) | assumption)
        obtain ⟨ad101, a5, a3⟩ := Kd.at_int HR0.out a2 p101 q101
        cases a5
        replace p101 := eq_true p101; replace q101 := eq_true q101
        have p102 : 0 ≤ (a2 : Int) := of_decide_eq_true (by first | (with_reducible assumption) | assumption)
        have q102 : a2 < (l1.length : Int) := of_decide_eq_true (by first | (with_reducible assumption) | assumption)
        obtain ⟨ad102, a6, a4⟩ := Kd.at_int HR1.out a2 p102 q102
        cases a6
        replace p102 := eq_true p102; replace q102 := eq_true q102
        go_wp2
        repeat (go_quiet (fail); try go_wp2)
        go_ret
        exact ⟨by first | rfl | (simp; done) | (simp [*]; done), by repeat (first | exact Drawn0.refl _ | apply Drawn0.step)⟩
      ·
       rw [if_neg c6] at H
       exact absurd H (by simp)
     ·
      rw [if_neg c5] at H
      exact absurd H (by simp)
    ·
     rw [if_neg c4] at H
     have b0 : decide (a2 < (l0.length : Int)) = false := decide_eq_false c4; clear c4; obtain rfl := Option.some.inj H
     go_wp2
     repeat (go_quiet (fail); try go_wp2)
     go_ret
     exact ⟨by first | rfl | (simp; done) | (simp [*]; done), by repeat (first | exact Drawn0.refl _ | apply Drawn0.step)⟩
 ·
  rw [if_neg c3] at H
  have a7 := beq_eq_false_iff_ne.mpr c3; have a8 := bne_iff_ne.mpr c3
  have a9 : (l0.length == l1.length) = false := by first | simpa using c3 | (simp at c3 ⊢; omega)
  obtain rfl := Option.some.inj H
  go_enter Try.func67, Try.ntmps67
  go_wp2
  repeat (go_quiet (fail); try go_wp2)
  go_ret
  exact ⟨by first | rfl | (simp; done) | (simp [*]; done), by repeat (first | exact Drawn0.refl _ | apply Drawn0.step)⟩
end
section
open Go.Proofs.YtgpkkkmapgnhkaaW.PrintWords.Aside0 renaming mk → yaa
open Go.Proofs.YtgpkkkmapgnhkaaW.PrintWords renaming pw_below_drewN → yab, below_alloc → yac, below_drew1 → yad, below_set → yae, below_size → yaf, below_step → yag
open Go.Proofs.YtgpkkkmapgnhkaaW.PrintWords.Kd renaming C_below → yah, C_alloc → yai, C_drewN → yaj

def laws_eqTenCfg.f (k : Nat) (l0_0 : List Int) (a0_1 : Int) (a0_2 : Int) (a0_3 : Int) (a0_4 : Int) (a0_5 : Int) (a0_6 : Int) (l1_0 : List Int) (a1_1 : Int) (a1_2 : Int) (a1_3 : Int) (a1_4 : Int) (a1_5 : Int) (a1_6 : Int) : Option (Bool) := (laws_eqByteS.f k l0_0 l1_0).bind fun t103 => (if t103 = true then (if a0_1 = a1_1 then (if a0_2 = a1_2 then (if a0_3 = a1_3 then (if a0_4 = a1_4 then (if a0_5 = a1_5 then (if a0_6 = a1_6 then (some true) else (some false)) else (some false)) else (some false)) else (some false)) else (some false)) else (some false)) else (some false))
set_option maxHeartbeats 8000000 in
set_option maxRecDepth 100000 in
theorem laws_eqTenCfg.calls (k : Nat) (A0_0 : Option Addr) (c0_0 : Nat) (l0_0 : List Int) (a0_1 : Int) (a0_2 : Int) (a0_3 : Int) (a0_4 : Int) (a0_5 : Int) (a0_6 : Int) (A1_0 : Option Addr) (c1_0 : Nat) (l1_0 : List Int) (a1_1 : Int) (a1_2 : Int) (a1_3 : Int) (a1_4 : Int) (a1_5 : Int) (a1_6 : Int) (r : Bool) (w : World) (hr0_0 : Kd.C (Kd.int .u8) w A0_0 l0_0.length l0_0) (hc0_0 : l0_0.length ≤ c0_0) (hr1_0 : Kd.C (Kd.int .u8) w A1_0 l1_0.length l1_0) (hc1_0 : l1_0.length ≤ c1_0) (h : laws_eqTenCfg.f k l0_0 a0_1 a0_2 a0_3 a0_4 a0_5 a0_6 l1_0 a1_1 a1_2 a1_3 a1_4 a1_5 a1_6 = some r) :
  Calls Try.prog 19 #[.agg #[.slice A0_0 l0_0.length c0_0, .int .i64 a0_1, .int .i64 a0_2, .int .i64 a0_3, .int .i64 a0_4, .int .i64 a0_5, .int .i64 a0_6], .agg #[.slice A1_0 l1_0.length c1_0, .int .i64 a1_1, .int .i64 a1_2, .int .i64 a1_3, .int .i64 a1_4, .int .i64 a1_5, .int .i64 a1_6]] w fun e w' => e = .returned (.bool r) ∧ Below w.heap.size w w' := by
 have hu24 := Try.underlying24; have HR0_0 := yaa hr0_0; have HC0_0 := yaa hc0_0; clear hr0_0 hc0_0; have HR1_0 := yaa hr1_0; have HC1_0 := yaa hc1_0; clear hr1_0 hc1_0; have HB := yaa (Below.refl w.heap.size w); have H : ((laws_eqByteS.f k l0_0 l1_0).bind fun c3 => (if c3 = true then (if a0_1 = a1_1 then (if a0_2 = a1_2 then (if a0_3 = a1_3 then (if a0_4 = a1_4 then (if a0_5 = a1_5 then (if a0_6 = a1_6 then (some true) else (some false)) else (some false)) else (some false)) else (some false)) else (some false)) else (some false)) else (some false))) = some r := h; clear h; obtain ⟨c3, A3, H⟩ := bindA H; (try dsimp only at H)
 by_cases c4 : c3 = true
 ·
  subst c4
  rw [if_pos rfl] at H
  by_cases c5 : a0_1 = a1_1
  ·
   rw [if_pos c5] at H
   have z7 := beq_iff_eq.mpr c5; have z8 := bne_eq_false_iff_eq.mpr c5; clear c5
   by_cases c6 : a0_2 = a1_2
   ·
    rw [if_pos c6] at H
    have z9 := beq_iff_eq.mpr c6; have A0 := bne_eq_false_iff_eq.mpr c6; clear c6
    by_cases c7 : a0_3 = a1_3
    ·
     rw [if_pos c7] at H
     have A1 := beq_iff_eq.mpr c7; have A2 := bne_eq_false_iff_eq.mpr c7; clear c7
     by_cases c8 : a0_4 = a1_4
     ·
      rw [if_pos c8] at H
      have A4 := beq_iff_eq.mpr c8; have A5 := bne_eq_false_iff_eq.mpr c8; clear c8
      by_cases c9 : a0_5 = a1_5
      ·
       rw [if_pos c9] at H
       have A6 := beq_iff_eq.mpr c9; have A7 := bne_eq_false_iff_eq.mpr c9; clear c9
       by_cases c10 : a0_6 = a1_6
       ·
        rw [if_pos c10] at H
        have d0 := beq_iff_eq.mpr c10; have d1 := bne_eq_false_iff_eq.mpr c10; clear c10; obtain rfl := Option.some.inj H
        go_enter Try.func19, Try.ntmps19
        go_wp2_with (first | ((with_reducible refine gd_ 2 rfl ?_); refine bx_ 2 rfl #[.slice A0_0 l0_0.length c0_0, .int .i64 a0_1, .int .i64 a0_2, .int .i64 a0_3, .int .i64 a0_4, .int .i64 a0_5, .int .i64 a0_6] 24 ?_; intro b4 hg w11 hbox hb; have b1 := yaa (hbox); have b6 := yaa ((by rw [hg]; exact (yaf (upH HB.out)) : w.heap.size ≤ b4)); replace HB := yaa (yag (upH HB.out) hb); have b9 := b6; clear hb hbox hg) | ((with_reducible refine gd_ 3 rfl ?_); refine bx_ 3 rfl #[.slice A1_0 l1_0.length c1_0, .int .i64 a1_1, .int .i64 a1_2, .int .i64 a1_3, .int .i64 a1_4, .int .i64 a1_5, .int .i64 a1_6] 24 ?_; intro b5 hg w12 hbox hb; have b3 := yaa (hbox); have b7 := yaa ((by rw [hg]; exact (yaf (by repeat (with_reducible first | exact HB.out | apply yac | apply yab | apply yad | refine yae ?_ (Aside0.out ‹_›)))) : w.heap.size ≤ b5)); replace HB := yaa (yag (by repeat (with_reducible first | exact HB.out | apply yac | apply yab | apply yad | refine yae ?_ (Aside0.out ‹_›))) hb); have c0 := b7; have b0 := yaa ((by rw [hg]; exact Nat.ne_of_lt (blk_lt (upB b1.out)) : b4 ≠ b5)); replace b1 := yaa (blk_below (upB b1.out) hb); have b2 := yaa b0.out.symm; clear hb hbox hg; have A8 := b0.out; have A9 := b2.out; obtain ⟨d2, d3, d4, d5, d6, d7, d8⟩ := cc7_ b1.out; obtain ⟨d9, e0, e1, e2, e3, e4, e5⟩ := cf7_ b1.out; obtain ⟨e6, e7, e8, e9, f0, f1, f2⟩ := cc7_ b3.out; obtain ⟨f3, f4, f5, f6, f7, f8⟩ := cf6_ b3.out; have f9 := blk_frozen b3.out 6) | ((with_reducible refine gc_ 67 rfl ?_); refine gl_ (some 9) rfl Try.func67 #[.slice A0_0 l0_0.length c0_0, .slice A1_0 l1_0.length c1_0] ?_; (with_reducible refine (laws_eqByteS.calls k _ _ l0_0 _ _ l1_0 true _ ?side1 ?side2 ?side3 ?side4 A3.out).mono ?_); (case side1 => repeat (first | exact (yah HR0_0.out HB.out) | (with_reducible refine yai ?_ _) | (with_reducible refine yaj ?_ _) | (with_reducible refine Kd.C_drew ?_))); (case side2 => exact HC0_0.out); (case side3 => repeat (first | exact (yah HR1_0.out HB.out) | (with_reducible refine yai ?_ _) | (with_reducible refine yaj ?_ _) | (with_reducible refine Kd.C_drew ?_))); (case side4 => exact HC1_0.out); rintro e w' ⟨rfl, ⟨nd, rfl⟩⟩; refine ⟨_, rfl, ?_⟩))
        go_ret
        exact ⟨by first | rfl | (simp [*, errW_none, errW_some] <;> rfl), by repeat (with_reducible first | exact HB.out | apply yac | apply yab | apply yad | refine yae ?_ (Aside0.out ‹_›))⟩
       ·
        rw [if_neg c10] at H
        have d0 := beq_eq_false_iff_ne.mpr c10; have d1 := bne_iff_ne.mpr c10; obtain rfl := Option.some.inj H
        go_enter Try.func19, Try.ntmps19
        go_wp2_with (first | ((with_reducible refine gd_ 2 rfl ?_); refine bx_ 2 rfl #[.slice A0_0 l0_0.length c0_0, .int .i64 a0_1, .int .i64 a0_2, .int .i64 a0_3, .int .i64 a0_4, .int .i64 a0_5, .int .i64 a0_6] 24 ?_; intro b4 hg w16 hbox hb; have b1 := yaa (hbox); have b6 := yaa ((by rw [hg]; exact (yaf (upH HB.out)) : w.heap.size ≤ b4)); replace HB := yaa (yag (upH HB.out) hb); have b9 := b6; clear hb hbox hg) | ((with_reducible refine gd_ 3 rfl ?_); refine bx_ 3 rfl #[.slice A1_0 l1_0.length c1_0, .int .i64 a1_1, .int .i64 a1_2, .int .i64 a1_3, .int .i64 a1_4, .int .i64 a1_5, .int .i64 a1_6] 24 ?_; intro b5 hg w17 hbox hb; have b3 := yaa (hbox); have b7 := yaa ((by rw [hg]; exact (yaf (by repeat (with_reducible first | exact HB.out | apply yac | apply yab | apply yad | refine yae ?_ (Aside0.out ‹_›)))) : w.heap.size ≤ b5)); replace HB := yaa (yag (by repeat (with_reducible first | exact HB.out | apply yac | apply yab | apply yad | refine yae ?_ (Aside0.out ‹_›))) hb); have c0 := b7; have b0 := yaa ((by rw [hg]; exact Nat.ne_of_lt (blk_lt (upB b1.out)) : b4 ≠ b5)); replace b1 := yaa (blk_below (upB b1.out) hb); have b2 := yaa b0.out.symm; clear hb hbox hg; have B0 := b0.out; have B1 := b2.out; obtain ⟨g0, g1, g2, g3, g4, g5, g6⟩ := cc7_ b1.out; obtain ⟨g7, g8, g9, h0, h1, h2, h3⟩ := cf7_ b1.out; obtain ⟨h4, h5, h6, h7, h8, h9, i0⟩ := cc7_ b3.out; obtain ⟨i1, i2, i3, i4, i5, i6⟩ := cf6_ b3.out; have i7 := blk_frozen b3.out 6) | ((with_reducible refine gc_ 67 rfl ?_); refine gl_ (some 9) rfl Try.func67 #[.slice A0_0 l0_0.length c0_0, .slice A1_0 l1_0.length c1_0] ?_; (with_reducible refine (laws_eqByteS.calls k _ _ l0_0 _ _ l1_0 true _ ?side1 ?side2 ?side3 ?side4 A3.out).mono ?_); (case side1 => repeat (first | exact (yah HR0_0.out HB.out) | (with_reducible refine yai ?_ _) | (with_reducible refine yaj ?_ _) | (with_reducible refine Kd.C_drew ?_))); (case side2 => exact HC0_0.out); (case side3 => repeat (first | exact (yah HR1_0.out HB.out) | (with_reducible refine yai ?_ _) | (with_reducible refine yaj ?_ _) | (with_reducible refine Kd.C_drew ?_))); (case side4 => exact HC1_0.out); rintro e w' ⟨rfl, ⟨nd, rfl⟩⟩; refine ⟨_, rfl, ?_⟩))
        go_ret
        exact ⟨by first | rfl | (simp [*, errW_none, errW_some] <;> rfl), by repeat (with_reducible first | exact HB.out | apply yac | apply yab | apply yad | refine yae ?_ (Aside0.out ‹_›))⟩
      ·
       rw [if_neg c9] at H
       have A6 := beq_eq_false_iff_ne.mpr c9; have A7 := bne_iff_ne.mpr c9; obtain rfl := Option.some.inj H
       go_enter Try.func19, Try.ntmps19
       go_wp2_with (first | ((with_reducible refine gd_ 2 rfl ?_); refine bx_ 2 rfl #[.slice A0_0 l0_0.length c0_0, .int .i64 a0_1, .int .i64 a0_2, .int .i64 a0_3, .int .i64 a0_4, .int .i64 a0_5, .int .i64 a0_6] 24 ?_; intro b4 hg w21 hbox hb; have b1 := yaa (hbox); have b6 := yaa ((by rw [hg]; exact (yaf (upH HB.out)) : w.heap.size ≤ b4)); replace HB := yaa (yag (upH HB.out) hb); have b9 := b6; clear hb hbox hg) | ((with_reducible refine gd_ 3 rfl ?_); refine bx_ 3 rfl #[.slice A1_0 l1_0.length c1_0, .int .i64 a1_1, .int .i64 a1_2, .int .i64 a1_3, .int .i64 a1_4, .int .i64 a1_5, .int .i64 a1_6] 24 ?_; intro b5 hg w22 hbox hb; have b3 := yaa (hbox); have b7 := yaa ((by rw [hg]; exact (yaf (by repeat (with_reducible first | exact HB.out | apply yac | apply yab | apply yad | refine yae ?_ (Aside0.out ‹_›)))) : w.heap.size ≤ b5)); replace HB := yaa (yag (by repeat (with_reducible first | exact HB.out | apply yac | apply yab | apply yad | refine yae ?_ (Aside0.out ‹_›))) hb); have c0 := b7; have b0 := yaa ((by rw [hg]; exact Nat.ne_of_lt (blk_lt (upB b1.out)) : b4 ≠ b5)); replace b1 := yaa (blk_below (upB b1.out) hb); have b2 := yaa b0.out.symm; clear hb hbox hg; have B2 := b0.out; have B3 := b2.out; obtain ⟨i8, i9, j0, j1, j2, j3, j4⟩ := cc7_ b1.out; obtain ⟨j5, j6, j7, j8, j9, k0, k1⟩ := cf7_ b1.out; obtain ⟨k2, k3, k4, k5, k6, k7, k8⟩ := cc7_ b3.out; obtain ⟨k9, l0, l1, l2, l3, l4⟩ := cf6_ b3.out; have l5 := blk_frozen b3.out 6) | ((with_reducible refine gc_ 67 rfl ?_); refine gl_ (some 9) rfl Try.func67 #[.slice A0_0 l0_0.length c0_0, .slice A1_0 l1_0.length c1_0] ?_; (with_reducible refine (laws_eqByteS.calls k _ _ l0_0 _ _ l1_0 true _ ?side1 ?side2 ?side3 ?side4 A3.out).mono ?_); (case side1 => repeat (first | exact (yah HR0_0.out HB.out) | (with_reducible refine yai ?_ _) | (with_reducible refine yaj ?_ _) | (with_reducible refine Kd.C_drew ?_))); (case side2 => exact HC0_0.out); (case side3 => repeat (first | exact (yah HR1_0.out HB.out) | (with_reducible refine yai ?_ _) | (with_reducible refine yaj ?_ _) | (with_reducible refine Kd.C_drew ?_))); (case side4 => exact HC1_0.out); rintro e w' ⟨rfl, ⟨nd, rfl⟩⟩; refine ⟨_, rfl, ?_⟩))
       go_ret
       exact ⟨by first | rfl | (simp [*, errW_none, errW_some] <;> rfl), by repeat (with_reducible first | exact HB.out | apply yac | apply yab | apply yad | refine yae ?_ (Aside0.out ‹_›))⟩
     ·
      rw [if_neg c8] at H
      have A4 := beq_eq_false_iff_ne.mpr c8; have A5 := bne_iff_ne.mpr c8; obtain rfl := Option.some.inj H
      go_enter Try.func19, Try.ntmps19
      go_wp2_with (first | ((with_reducible refine gd_ 2 rfl ?_); refine bx_ 2 rfl #[.slice A0_0 l0_0.length c0_0, .int .i64 a0_1, .int .i64 a0_2, .int .i64 a0_3, .int .i64 a0_4, .int .i64 a0_5, .int .i64 a0_6] 24 ?_; intro b4 hg w26 hbox hb; have b1 := yaa (hbox); have b6 := yaa ((by rw [hg]; exact (yaf (upH HB.out)) : w.heap.size ≤ b4)); replace HB := yaa (yag (upH HB.out) hb); have b9 := b6; clear hb hbox hg) | ((with_reducible refine gd_ 3 rfl ?_); refine bx_ 3 rfl #[.slice A1_0 l1_0.length c1_0, .int .i64 a1_1, .int .i64 a1_2, .int .i64 a1_3, .int .i64 a1_4, .int .i64 a1_5, .int .i64 a1_6] 24 ?_; intro b5 hg w27 hbox hb; have b3 := yaa (hbox); have b7 := yaa ((by rw [hg]; exact (yaf (by repeat (with_reducible first | exact HB.out | apply yac | apply yab | apply yad | refine yae ?_ (Aside0.out ‹_›)))) : w.heap.size ≤ b5)); replace HB := yaa (yag (by repeat (with_reducible first | exact HB.out | apply yac | apply yab | apply yad | refine yae ?_ (Aside0.out ‹_›))) hb); have c0 := b7; have b0 := yaa ((by rw [hg]; exact Nat.ne_of_lt (blk_lt (upB b1.out)) : b4 ≠ b5)); replace b1 := yaa (blk_below (upB b1.out) hb); have b2 := yaa b0.out.symm; clear hb hbox hg; have B4 := b0.out; have B5 := b2.out; obtain ⟨l6, l7, l8, l9, m0, m1, m2⟩ := cc7_ b1.out; obtain ⟨m3, m4, m5, m6, m7, m8, m9⟩ := cf7_ b1.out; obtain ⟨n0, n1, n2, n3, n4, n5, n6⟩ := cc7_ b3.out; obtain ⟨n7, n8, n9, o0, o1, o2⟩ := cf6_ b3.out; have o3 := blk_frozen b3.out 6) | ((with_reducible refine gc_ 67 rfl ?_); refine gl_ (some 9) rfl Try.func67 #[.slice A0_0 l0_0.length c0_0, .slice A1_0 l1_0.length c1_0] ?_; (with_reducible refine (laws_eqByteS.calls k _ _ l0_0 _ _ l1_0 true _ ?side1 ?side2 ?side3 ?side4 A3.out).mono ?_); (case side1 => repeat (first | exact (yah HR0_0.out HB.out) | (with_reducible refine yai ?_ _) | (with_reducible refine yaj ?_ _) | (with_reducible refine Kd.C_drew ?_))); (case side2 => exact HC0_0.out); (case side3 => repeat (first | exact (yah HR1_0.out HB.out) | (with_reducible refine yai ?_ _) | (with_reducible refine yaj ?_ _) | (with_reducible refine Kd.C_drew ?_))); (case side4 => exact HC1_0.out); rintro e w' ⟨rfl, ⟨nd, rfl⟩⟩; refine ⟨_, rfl, ?_⟩))
      go_ret
      exact ⟨by first | rfl | (simp [*, errW_none, errW_some] <;> rfl), by repeat (with_reducible first | exact HB.out | apply yac | apply yab | apply yad | refine yae ?_ (Aside0.out ‹_›))⟩
    ·
     rw [if_neg c7] at H
     have A1 := beq_eq_false_iff_ne.mpr c7; have A2 := bne_iff_ne.mpr c7; obtain rfl := Option.some.inj H
     go_enter Try.func19, Try.ntmps19
     go_wp2_with (first | ((with_reducible refine gd_ 2 rfl ?_); refine bx_ 2 rfl #[.slice A0_0 l0_0.length c0_0, .int .i64 a0_1, .int .i64 a0_2, .int .i64 a0_3, .int .i64 a0_4, .int .i64 a0_5, .int .i64 a0_6] 24 ?_; intro b4 hg w31 hbox hb; have b1 := yaa (hbox); have b6 := yaa ((by rw [hg]; exact (yaf (upH HB.out)) : w.heap.size ≤ b4)); replace HB := yaa (yag (upH HB.out) hb); have b9 := b6; clear hb hbox hg) | ((with_reducible refine gd_ 3 rfl ?_); refine bx_ 3 rfl #[.slice A1_0 l1_0.length c1_0, .int .i64 a1_1, .int .i64 a1_2, .int .i64 a1_3, .int .i64 a1_4, .int .i64 a1_5, .int .i64 a1_6] 24 ?_; intro b5 hg w32 hbox hb; have b3 := yaa (hbox); have b7 := yaa ((by rw [hg]; exact (yaf (by repeat (with_reducible first | exact HB.out | apply yac | apply yab | apply yad | refine yae ?_ (Aside0.out ‹_›)))) : w.heap.size ≤ b5)); replace HB := yaa (yag (by repeat (with_reducible first | exact HB.out | apply yac | apply yab | apply yad | refine yae ?_ (Aside0.out ‹_›))) hb); have c0 := b7; have b0 := yaa ((by rw [hg]; exact Nat.ne_of_lt (blk_lt (upB b1.out)) : b4 ≠ b5)); replace b1 := yaa (blk_below (upB b1.out) hb); have b2 := yaa b0.out.symm; clear hb hbox hg; have B6 := b0.out; have B7 := b2.out; obtain ⟨o4, o5, o6, o7, o8, o9, p0⟩ := cc7_ b1.out; obtain ⟨p1, p2, p3, p4, p5, p6, p7⟩ := cf7_ b1.out; obtain ⟨p8, p9, q0, q1, q2, q3, q4⟩ := cc7_ b3.out; obtain ⟨q5, q6, q7, q8, q9, r0⟩ := cf6_ b3.out; have r1 := blk_frozen b3.out 6) | ((with_reducible refine gc_ 67 rfl ?_); refine gl_ (some 9) rfl Try.func67 #[.slice A0_0 l0_0.length c0_0, .slice A1_0 l1_0.length c1_0] ?_; (with_reducible refine (laws_eqByteS.calls k _ _ l0_0 _ _ l1_0 true _ ?side1 ?side2 ?side3 ?side4 A3.out).mono ?_); (case side1 => repeat (first | exact (yah HR0_0.out HB.out) | (with_reducible refine yai ?_ _) | (with_reducible refine yaj ?_ _) | (with_reducible refine Kd.C_drew ?_))); (case side2 => exact HC0_0.out); (case side3 => repeat (first | exact (yah HR1_0.out HB.out) | (with_reducible refine yai ?_ _) | (with_reducible refine yaj ?_ _) | (with_reducible refine Kd.C_drew ?_))); (case side4 => exact HC1_0.out); rintro e w' ⟨rfl, ⟨nd, rfl⟩⟩; refine ⟨_, rfl, ?_⟩))
     go_ret
     exact ⟨by first | rfl | (simp [*, errW_none, errW_some] <;> rfl), by repeat (with_reducible first | exact HB.out | apply yac | apply yab | apply yad | refine yae ?_ (Aside0.out ‹_›))⟩
   ·
    rw [if_neg c6] at H
    have z9 := beq_eq_false_iff_ne.mpr c6; have A0 := bne_iff_ne.mpr c6; obtain rfl := Option.some.inj H
    go_enter Try.func19, Try.ntmps19
    go_wp2_with (first | ((with_reducible refine gd_ 2 rfl ?_); refine bx_ 2 rfl #[.slice A0_0 l0_0.length c0_0, .int .i64 a0_1, .int .i64 a0_2, .int .i64 a0_3, .int .i64 a0_4, .int .i64 a0_5, .int .i64 a0_6] 24 ?_; intro b4 hg w36 hbox hb; have b1 := yaa (hbox); have b6 := yaa ((by rw [hg]; exact (yaf (upH HB.out)) : w.heap.size ≤ b4)); replace HB := yaa (yag (upH HB.out) hb); have b9 := b6; clear hb hbox hg) | ((with_reducible refine gd_ 3 rfl ?_); refine bx_ 3 rfl #[.slice A1_0 l1_0.length c1_0, .int .i64 a1_1, .int .i64 a1_2, .int .i64 a1_3, .int .i64 a1_4, .int .i64 a1_5, .int .i64 a1_6] 24 ?_; intro b5 hg w37 hbox hb; have b3 := yaa (hbox); have b7 := yaa ((by rw [hg]; exact (yaf (by repeat (with_reducible first | exact HB.out | apply yac | apply yab | apply yad | refine yae ?_ (Aside0.out ‹_›)))) : w.heap.size ≤ b5)); replace HB := yaa (yag (by repeat (with_reducible first | exact HB.out | apply yac | apply yab | apply yad | refine yae ?_ (Aside0.out ‹_›))) hb); have c0 := b7; have b0 := yaa ((by rw [hg]; exact Nat.ne_of_lt (blk_lt (upB b1.out)) : b4 ≠ b5)); replace b1 := yaa (blk_below (upB b1.out) hb); have b2 := yaa b0.out.symm; clear hb hbox hg; have B8 := b0.out; have B9 := b2.out; obtain ⟨r2, r3, r4, r5, r6, r7, r8⟩ := cc7_ b1.out; obtain ⟨r9, s0, s1, s2, s3, s4, s5⟩ := cf7_ b1.out; obtain ⟨s6, s7, s8, s9, t0, t1, t2⟩ := cc7_ b3.out; obtain ⟨t3, t4, t5, t6, t7, t8⟩ := cf6_ b3.out; have t9 := blk_frozen b3.out 6) | ((with_reducible refine gc_ 67 rfl ?_); refine gl_ (some 9) rfl Try.func67 #[.slice A0_0 l0_0.length c0_0, .slice A1_0 l1_0.length c1_0] ?_; (with_reducible refine (laws_eqByteS.calls k _ _ l0_0 _ _ l1_0 true _ ?side1 ?side2 ?side3 ?side4 A3.out).mono ?_); (case side1 => repeat (first | exact (yah HR0_0.out HB.out) | (with_reducible refine yai ?_ _) | (with_reducible refine yaj ?_ _) | (with_reducible refine Kd.C_drew ?_))); (case side2 => exact HC0_0.out); (case side3 => repeat (first | exact (yah HR1_0.out HB.out) | (with_reducible refine yai ?_ _) | (with_reducible refine yaj ?_ _) | (with_reducible refine Kd.C_drew ?_))); (case side4 => exact HC1_0.out); rintro e w' ⟨rfl, ⟨nd, rfl⟩⟩; refine ⟨_, rfl, ?_⟩))
    go_ret
    exact ⟨by first | rfl | (simp [*, errW_none, errW_some] <;> rfl), by repeat (with_reducible first | exact HB.out | apply yac | apply yab | apply yad | refine yae ?_ (Aside0.out ‹_›))⟩
  ·
   rw [if_neg c5] at H
   have z7 := beq_eq_false_iff_ne.mpr c5; have z8 := bne_iff_ne.mpr c5; obtain rfl := Option.some.inj H
   go_enter Try.func19, Try.ntmps19
   go_wp2_with (first | ((with_reducible refine gd_ 2 rfl ?_); refine bx_ 2 rfl #[.slice A0_0 l0_0.length c0_0, .int .i64 a0_1, .int .i64 a0_2, .int .i64 a0_3, .int .i64 a0_4, .int .i64 a0_5, .int .i64 a0_6] 24 ?_; intro b4 hg w41 hbox hb; have b1 := yaa (hbox); have b6 := yaa ((by rw [hg]; exact (yaf (upH HB.out)) : w.heap.size ≤ b4)); replace HB := yaa (yag (upH HB.out) hb); have b9 := b6; clear hb hbox hg) | ((with_reducible refine gd_ 3 rfl ?_); refine bx_ 3 rfl #[.slice A1_0 l1_0.length c1_0, .int .i64 a1_1, .int .i64 a1_2, .int .i64 a1_3, .int .i64 a1_4, .int .i64 a1_5, .int .i64 a1_6] 24 ?_; intro b5 hg w42 hbox hb; have b3 := yaa (hbox); have b7 := yaa ((by rw [hg]; exact (yaf (by repeat (with_reducible first | exact HB.out | apply yac | apply yab | apply yad | refine yae ?_ (Aside0.out ‹_›)))) : w.heap.size ≤ b5)); replace HB := yaa (yag (by repeat (with_reducible first | exact HB.out | apply yac | apply yab | apply yad | refine yae ?_ (Aside0.out ‹_›))) hb); have c0 := b7; have b0 := yaa ((by rw [hg]; exact Nat.ne_of_lt (blk_lt (upB b1.out)) : b4 ≠ b5)); replace b1 := yaa (blk_below (upB b1.out) hb); have b2 := yaa b0.out.symm; clear hb hbox hg; have C0 := b0.out; have C1 := b2.out; obtain ⟨u0, u1, u2, u3, u4, u5, u6⟩ := cc7_ b1.out; obtain ⟨u7, u9, v0, v1, v2, v3, v4⟩ := cf7_ b1.out; obtain ⟨v5, v6, v7, v8, v9, w0, w1⟩ := cc7_ b3.out; obtain ⟨w2, w3, w4, w5, w6, w7⟩ := cf6_ b3.out; have w8 := blk_frozen b3.out 6) | ((with_reducible refine gc_ 67 rfl ?_); refine gl_ (some 9) rfl Try.func67 #[.slice A0_0 l0_0.length c0_0, .slice A1_0 l1_0.length c1_0] ?_; (with_reducible refine (laws_eqByteS.calls k _ _ l0_0 _ _ l1_0 true _ ?side1 ?side2 ?side3 ?side4 A3.out).mono ?_); (case side1 => repeat (first | exact (yah HR0_0.out HB.out) | (with_reducible refine yai ?_ _) | (with_reducible refine yaj ?_ _) | (with_reducible refine Kd.C_drew ?_))); (case side2 => exact HC0_0.out); (case side3 => repeat (first | exact (yah HR1_0.out HB.out) | (with_reducible refine yai ?_ _) | (with_reducible refine yaj ?_ _) | (with_reducible refine Kd.C_drew ?_))); (case side4 => exact HC1_0.out); rintro e w' ⟨rfl, ⟨nd, rfl⟩⟩; refine ⟨_, rfl, ?_⟩))
   go_ret
   exact ⟨by first | rfl | (simp [*, errW_none, errW_some] <;> rfl), by repeat (with_reducible first | exact HB.out | apply yac | apply yab | apply yad | refine yae ?_ (Aside0.out ‹_›))⟩
 ·
  replace c4 := Bool.eq_false_iff.mpr c4
  subst c4
  rw [if_neg (show ¬ (false = true) by decide)] at H
  obtain rfl := Option.some.inj H
  go_enter Try.func19, Try.ntmps19
  go_wp2_with (first | ((with_reducible refine gd_ 2 rfl ?_); refine bx_ 2 rfl #[.slice A0_0 l0_0.length c0_0, .int .i64 a0_1, .int .i64 a0_2, .int .i64 a0_3, .int .i64 a0_4, .int .i64 a0_5, .int .i64 a0_6] 24 ?_; intro b4 hg w46 hbox hb; have b1 := yaa (hbox); have b6 := yaa ((by rw [hg]; exact (yaf (upH HB.out)) : w.heap.size ≤ b4)); replace HB := yaa (yag (upH HB.out) hb); have b9 := b6; clear hb hbox hg) | ((with_reducible refine gd_ 3 rfl ?_); refine bx_ 3 rfl #[.slice A1_0 l1_0.length c1_0, .int .i64 a1_1, .int .i64 a1_2, .int .i64 a1_3, .int .i64 a1_4, .int .i64 a1_5, .int .i64 a1_6] 24 ?_; intro b5 hg w47 hbox hb; have b3 := yaa (hbox); have b7 := yaa ((by rw [hg]; exact (yaf (by repeat (with_reducible first | exact HB.out | apply yac | apply yab | apply yad | refine yae ?_ (Aside0.out ‹_›)))) : w.heap.size ≤ b5)); replace HB := yaa (yag (by repeat (with_reducible first | exact HB.out | apply yac | apply yab | apply yad | refine yae ?_ (Aside0.out ‹_›))) hb); have c0 := b7; have b0 := yaa ((by rw [hg]; exact Nat.ne_of_lt (blk_lt (upB b1.out)) : b4 ≠ b5)); replace b1 := yaa (blk_below (upB b1.out) hb); have b2 := yaa b0.out.symm; clear hb hbox hg; have C2 := b0.out; have C3 := b2.out; obtain ⟨w9, x0, x1, x2, x3, x4, x5⟩ := cc7_ b1.out; obtain ⟨x6, x7, x8, x9, y0, y1, y2⟩ := cf7_ b1.out; obtain ⟨y3, y4, y5, y6, y7, y8, y9⟩ := cc7_ b3.out; obtain ⟨z0, z1, z2, z3, z4, z5⟩ := cf6_ b3.out; have z6 := blk_frozen b3.out 6) | ((with_reducible refine gc_ 67 rfl ?_); refine gl_ (some 9) rfl Try.func67 #[.slice A0_0 l0_0.length c0_0, .slice A1_0 l1_0.length c1_0] ?_; (with_reducible refine (laws_eqByteS.calls k _ _ l0_0 _ _ l1_0 false _ ?side1 ?side2 ?side3 ?side4 A3.out).mono ?_); (case side1 => repeat (first | exact (yah HR0_0.out HB.out) | (with_reducible refine yai ?_ _) | (with_reducible refine yaj ?_ _) | (with_reducible refine Kd.C_drew ?_))); (case side2 => exact HC0_0.out); (case side3 => repeat (first | exact (yah HR1_0.out HB.out) | (with_reducible refine yai ?_ _) | (with_reducible refine yaj ?_ _) | (with_reducible refine Kd.C_drew ?_))); (case side4 => exact HC1_0.out); rintro e w' ⟨rfl, ⟨nd, rfl⟩⟩; refine ⟨_, rfl, ?_⟩))
  go_ret
  exact ⟨by first | rfl | (simp [*, errW_none, errW_some] <;> rfl), by repeat (with_reducible first | exact HB.out | apply yac | apply yab | apply yad | refine yae ?_ (Aside0.out ‹_›))⟩
end
section
def impl_within.f (a0 : Int) (a1 : Int) (a2 : Int) : Option (Bool) := if a0 ≥ a1 then (some (decide (a0 ≤ a2))) else (some false)
set_option maxHeartbeats 8000000 in
set_option maxRecDepth 100000 in
theorem impl_within.calls (a0 : Int) (a1 : Int) (a2 : Int) (r : Bool) (w : World) (h : impl_within.f a0 a1 a2 = some r) :
    Calls Try.prog 62 #[.int .i64 a0, .int .i64 a1, .int .i64 a2] w fun e w' => e = .returned (.bool r) ∧ Drawn0 w w' := by
  have H : (if a0 ≥ a1 then (some (decide (a0 ≤ a2))) else (some false)) = some r := h; clear h
  by_cases c4 : a0 ≥ a1
  · rw [if_pos c4] at H
    have c4b0 : decide (a1 ≤ a0) = true := decide_eq_true c4; clear c4; obtain rfl := Option.some.inj H
    go_enter Try.func62, Try.ntmps62
    go_wp2
    go_ret
    exact ⟨by first | rfl | (simp; done) | (simp [*]; done), by repeat (first | exact Drawn0.refl _ | apply Drawn0.step)⟩
  · rw [if_neg c4] at H
    have c4b0 : decide (a1 ≤ a0) = false := decide_eq_false c4; clear c4; obtain rfl := Option.some.inj H
    go_enter Try.func62, Try.ntmps62
    go_wp2
    go_ret
    exact ⟨by first | rfl | (simp; done) | (simp [*]; done), by repeat (first | exact Drawn0.refl _ | apply Drawn0.step)⟩
end
section
open Go.Proofs.YtgpkkkmapgnhkaaW.PrintWords.Aside0 renaming mk → yaa

def impl_CfgOk.f (l0_0 : List Int) (a0_1 : Int) (a0_2 : Int) (a0_3 : Int) (a0_4 : Int) (a0_5 : Int) (a0_6 : Int) : Option (Bool) := if (l0_0.length : Int) ≤ 32 then ((impl_within.f a0_1 1 9).bind fun t102 => (if t102 = true then ((impl_within.f a0_2 1 99).bind fun t103 => (if t103 = true then ((impl_within.f a0_3 1 4).bind fun t104 => (if t104 = true then ((impl_within.f a0_4 1 999).bind fun t105 => (if t105 = true then ((impl_within.f a0_5 1 3).bind fun t106 => (if t106 = true then ((impl_within.f a0_6 1 999).bind fun t107 => (some t107)) else (some false))) else (some false))) else (some false))) else (some false))) else (some false))) else (some false)
set_option maxHeartbeats 8000000 in
set_option maxRecDepth 100000 in
theorem impl_CfgOk.calls (A0_0 : Option Addr) (c0_0 : Nat) (l0_0 : List Int) (a0_1 : Int) (a0_2 : Int) (a0_3 : Int) (a0_4 : Int) (a0_5 : Int) (a0_6 : Int) (r : Bool) (w : World) (hr0_0 : Kd.C (Kd.int .u8) w A0_0 l0_0.length l0_0) (hc0_0 : l0_0.length ≤ c0_0) (h : impl_CfgOk.f l0_0 a0_1 a0_2 a0_3 a0_4 a0_5 a0_6 = some r) :
  Calls Try.prog 14 #[.agg #[.slice A0_0 l0_0.length c0_0, .int .i64 a0_1, .int .i64 a0_2, .int .i64 a0_3, .int .i64 a0_4, .int .i64 a0_5, .int .i64 a0_6]] w fun e w' => e = .returned (.bool r) ∧ Below w.heap.size w w' := by
 have hu24 := Try.underlying24; have HR0_0 := yaa hr0_0; have HC0_0 := yaa hc0_0; clear hr0_0 hc0_0; have HB := yaa (Below.refl w.heap.size w); have H : (if (l0_0.length : Int) ≤ 32 then ((impl_within.f a0_1 1 9).bind fun a6 => (if a6 = true then ((impl_within.f a0_2 1 99).bind fun a7 => (if a7 = true then ((impl_within.f a0_3 1 4).bind fun a8 => (if a8 = true then ((impl_within.f a0_4 1 999).bind fun a9 => (if a9 = true then ((impl_within.f a0_5 1 3).bind fun b0 => (if b0 = true then ((impl_within.f a0_6 1 999).bind fun b1 => (some b1)) else (some false))) else (some false))) else (some false))) else (some false))) else (some false))) else (some false)) = some r := h; clear h
 by_cases c2 : (l0_0.length : Int) ≤ 32
 ·
  rw [if_pos c2] at H
  have l4 : decide ((l0_0.length : Int) ≤ 32) = true := decide_eq_true c2; have l5 : decide (l0_0.length ≤ 32) = true := decide_eq_true (by omega); clear c2; obtain ⟨a6, A3, H⟩ := bindA H; (try dsimp only at H)
  by_cases c4 : a6 = true
  ·
   subst c4
   rw [if_pos rfl] at H
   obtain ⟨a7, A5, H⟩ := bindA H; (try dsimp only at H)
   by_cases c6 : a7 = true
   ·
    subst c6
    rw [if_pos rfl] at H
    obtain ⟨a8, A7, H⟩ := bindA H; (try dsimp only at H)
    by_cases c8 : a8 = true
    ·
     subst c8
     rw [if_pos rfl] at H
     obtain ⟨a9, A9, H⟩ := bindA H; (try dsimp only at H)
     by_cases c10 : a9 = true
     ·
      subst c10
      rw [if_pos rfl] at H
      obtain ⟨b0, A11, H⟩ := bindA H; (try dsimp only at H)
      by_cases c12 : b0 = true
      ·
       subst c12
       rw [if_pos rfl] at H
       obtain ⟨b1, A13, H⟩ := bindA H; (try dsimp only at H); obtain rfl := Option.some.inj H
       go_enter Try.func14, Try.ntmps14
       go_wp2_with (first | ((with_reducible refine gd_ 1 rfl ?_); refine bx_ 1 rfl #[.slice A0_0 l0_0.length c0_0, .int .i64 a0_1, .int .i64 a0_2, .int .i64 a0_3, .int .i64 a0_4, .int .i64 a0_5, .int .i64 a0_6] 24 ?_; intro a1 hg w14 hbox hb; have a0 := yaa (hbox); have a2 := yaa ((by rw [hg]; exact (below_size (upH HB.out)) : w.heap.size ≤ a1)); replace HB := yaa (below_step (upH HB.out) hb); have a3 := a2; clear hb hbox hg; obtain ⟨b2, b3, b4, b5, b6, b7, b8⟩ := cc7_ a0.out; obtain ⟨b9, c0, c1, c3, c5, c7⟩ := cf6_ a0.out; have c9 := blk_frozen a0.out 6) | (go_at_call 62; (with_reducible refine (impl_within.calls a0_1 1 9 true _ A3.out).mono ?_); rintro e w' ⟨rfl, ⟨nd, rfl⟩⟩) | (go_at_call 62; (with_reducible refine (impl_within.calls a0_2 1 99 true _ A5.out).mono ?_); rintro e w' ⟨rfl, ⟨nd, rfl⟩⟩) | (go_at_call 62; (with_reducible refine (impl_within.calls a0_3 1 4 true _ A7.out).mono ?_); rintro e w' ⟨rfl, ⟨nd, rfl⟩⟩) | (go_at_call 62; (with_reducible refine (impl_within.calls a0_4 1 999 true _ A9.out).mono ?_); rintro e w' ⟨rfl, ⟨nd, rfl⟩⟩) | (go_at_call 62; (with_reducible refine (impl_within.calls a0_5 1 3 true _ A11.out).mono ?_); rintro e w' ⟨rfl, ⟨nd, rfl⟩⟩) | (go_at_call 62; (with_reducible refine (impl_within.calls a0_6 1 999 b1 _ A13.out).mono ?_); rintro e w' ⟨rfl, ⟨nd, rfl⟩⟩))
       go_ret
       exact ⟨by first | rfl | (simp [*, errW_none, errW_some] <;> rfl), by repeat (with_reducible first | exact HB.out | apply below_alloc | apply pw_below_drewN | apply below_drew1 | refine below_set ?_ (Aside0.out ‹_›))⟩
      ·
       replace c12 := Bool.eq_false_iff.mpr c12
       subst c12
       rw [if_neg (show ¬ (false = true) by decide)] at H
       obtain rfl := Option.some.inj H
       go_enter Try.func14, Try.ntmps14
       go_wp2_with (first | ((with_reducible refine gd_ 1 rfl ?_); refine bx_ 1 rfl #[.slice A0_0 l0_0.length c0_0, .int .i64 a0_1, .int .i64 a0_2, .int .i64 a0_3, .int .i64 a0_4, .int .i64 a0_5, .int .i64 a0_6] 24 ?_; intro a1 hg w16 hbox hb; have a0 := yaa (hbox); have a2 := yaa ((by rw [hg]; exact (below_size (upH HB.out)) : w.heap.size ≤ a1)); replace HB := yaa (below_step (upH HB.out) hb); have a3 := a2; clear hb hbox hg; obtain ⟨d0, d1, d2, d3, d4, d5, d6⟩ := cc7_ a0.out; obtain ⟨d7, d8, d9, e0, e1, e2⟩ := cf6_ a0.out; have e3 := blk_frozen a0.out 6) | (go_at_call 62; (with_reducible refine (impl_within.calls a0_1 1 9 true _ A3.out).mono ?_); rintro e w' ⟨rfl, ⟨nd, rfl⟩⟩) | (go_at_call 62; (with_reducible refine (impl_within.calls a0_2 1 99 true _ A5.out).mono ?_); rintro e w' ⟨rfl, ⟨nd, rfl⟩⟩) | (go_at_call 62; (with_reducible refine (impl_within.calls a0_3 1 4 true _ A7.out).mono ?_); rintro e w' ⟨rfl, ⟨nd, rfl⟩⟩) | (go_at_call 62; (with_reducible refine (impl_within.calls a0_4 1 999 true _ A9.out).mono ?_); rintro e w' ⟨rfl, ⟨nd, rfl⟩⟩) | (go_at_call 62; (with_reducible refine (impl_within.calls a0_5 1 3 false _ A11.out).mono ?_); rintro e w' ⟨rfl, ⟨nd, rfl⟩⟩))
       go_ret
       exact ⟨by first | rfl | (simp [*, errW_none, errW_some] <;> rfl), by repeat (with_reducible first | exact HB.out | apply below_alloc | apply pw_below_drewN | apply below_drew1 | refine below_set ?_ (Aside0.out ‹_›))⟩
     ·
      replace c10 := Bool.eq_false_iff.mpr c10
      subst c10
      rw [if_neg (show ¬ (false = true) by decide)] at H
      obtain rfl := Option.some.inj H
      go_enter Try.func14, Try.ntmps14
      go_wp2_with (first | ((with_reducible refine gd_ 1 rfl ?_); refine bx_ 1 rfl #[.slice A0_0 l0_0.length c0_0, .int .i64 a0_1, .int .i64 a0_2, .int .i64 a0_3, .int .i64 a0_4, .int .i64 a0_5, .int .i64 a0_6] 24 ?_; intro a1 hg w18 hbox hb; have a0 := yaa (hbox); have a2 := yaa ((by rw [hg]; exact (below_size (upH HB.out)) : w.heap.size ≤ a1)); replace HB := yaa (below_step (upH HB.out) hb); have a3 := a2; clear hb hbox hg; obtain ⟨e4, e5, e6, e7, e8, e9, f0⟩ := cc7_ a0.out; obtain ⟨f1, f2, f3, f4, f5, f6⟩ := cf6_ a0.out; have f7 := blk_frozen a0.out 6) | (go_at_call 62; (with_reducible refine (impl_within.calls a0_1 1 9 true _ A3.out).mono ?_); rintro e w' ⟨rfl, ⟨nd, rfl⟩⟩) | (go_at_call 62; (with_reducible refine (impl_within.calls a0_2 1 99 true _ A5.out).mono ?_); rintro e w' ⟨rfl, ⟨nd, rfl⟩⟩) | (go_at_call 62; (with_reducible refine (impl_within.calls a0_3 1 4 true _ A7.out).mono ?_); rintro e w' ⟨rfl, ⟨nd, rfl⟩⟩) | (go_at_call 62; (with_reducible refine (impl_within.calls a0_4 1 999 false _ A9.out).mono ?_); rintro e w' ⟨rfl, ⟨nd, rfl⟩⟩))
      go_ret
      exact ⟨by first | rfl | (simp [*, errW_none, errW_some] <;> rfl), by repeat (with_reducible first | exact HB.out | apply below_alloc | apply pw_below_drewN | apply below_drew1 | refine below_set ?_ (Aside0.out ‹_›))⟩
    ·
     replace c8 := Bool.eq_false_iff.mpr c8
     subst c8
     rw [if_neg (show ¬ (false = true) by decide)] at H
     obtain rfl := Option.some.inj H
     go_enter Try.func14, Try.ntmps14
     go_wp2_with (first | ((with_reducible refine gd_ 1 rfl ?_); refine bx_ 1 rfl #[.slice A0_0 l0_0.length c0_0, .int .i64 a0_1, .int .i64 a0_2, .int .i64 a0_3, .int .i64 a0_4, .int .i64 a0_5, .int .i64 a0_6] 24 ?_; intro a1 hg w20 hbox hb; have a0 := yaa (hbox); have a2 := yaa ((by rw [hg]; exact (below_size (upH HB.out)) : w.heap.size ≤ a1)); replace HB := yaa (below_step (upH HB.out) hb); have a3 := a2; clear hb hbox hg; obtain ⟨f8, f9, g0, g1, g2, g3, g4⟩ := cc7_ a0.out; obtain ⟨g5, g6, g7, g8, g9, h0⟩ := cf6_ a0.out; have h1 := blk_frozen a0.out 6) | (go_at_call 62; (with_reducible refine (impl_within.calls a0_1 1 9 true _ A3.out).mono ?_); rintro e w' ⟨rfl, ⟨nd, rfl⟩⟩) | (go_at_call 62; (with_reducible refine (impl_within.calls a0_2 1 99 true _ A5.out).mono ?_); rintro e w' ⟨rfl, ⟨nd, rfl⟩⟩) | (go_at_call 62; (with_reducible refine (impl_within.calls a0_3 1 4 false _ A7.out).mono ?_); rintro e w' ⟨rfl, ⟨nd, rfl⟩⟩))
     go_ret
     exact ⟨by first | rfl | (simp [*, errW_none, errW_some] <;> rfl), by repeat (with_reducible first | exact HB.out | apply below_alloc | apply pw_below_drewN | apply below_drew1 | refine below_set ?_ (Aside0.out ‹_›))⟩
   ·
    replace c6 := Bool.eq_false_iff.mpr c6
    subst c6
    rw [if_neg (show ¬ (false = true) by decide)] at H
    obtain rfl := Option.some.inj H
    go_enter Try.func14, Try.ntmps14
    go_wp2_with (first | ((with_reducible refine gd_ 1 rfl ?_); refine bx_ 1 rfl #[.slice A0_0 l0_0.length c0_0, .int .i64 a0_1, .int .i64 a0_2, .int .i64 a0_3, .int .i64 a0_4, .int .i64 a0_5, .int .i64 a0_6] 24 ?_; intro a1 hg w22 hbox hb; have a0 := yaa (hbox); have a2 := yaa ((by rw [hg]; exact (below_size (upH HB.out)) : w.heap.size ≤ a1)); replace HB := yaa (below_step (upH HB.out) hb); have a3 := a2; clear hb hbox hg; obtain ⟨h2, h3, h4, h5, h6, h7, h8⟩ := cc7_ a0.out; obtain ⟨h9, i0, i1, i2, i3, i4⟩ := cf6_ a0.out; have i5 := blk_frozen a0.out 6) | (go_at_call 62; (with_reducible refine (impl_within.calls a0_1 1 9 true _ A3.out).mono ?_); rintro e w' ⟨rfl, ⟨nd, rfl⟩⟩) | (go_at_call 62; (with_reducible refine (impl_within.calls a0_2 1 99 false _ A5.out).mono ?_); rintro e w' ⟨rfl, ⟨nd, rfl⟩⟩))
    go_ret
    exact ⟨by first | rfl | (simp [*, errW_none, errW_some] <;> rfl), by repeat (with_reducible first | exact HB.out | apply below_alloc | apply pw_below_drewN | apply below_drew1 | refine below_set ?_ (Aside0.out ‹_›))⟩
  ·
   replace c4 := Bool.eq_false_iff.mpr c4
   subst c4
   rw [if_neg (show ¬ (false = true) by decide)] at H
   obtain rfl := Option.some.inj H
   go_enter Try.func14, Try.ntmps14
   go_wp2_with (first | ((with_reducible refine gd_ 1 rfl ?_); refine bx_ 1 rfl #[.slice A0_0 l0_0.length c0_0, .int .i64 a0_1, .int .i64 a0_2, .int .i64 a0_3, .int .i64 a0_4, .int .i64 a0_5, .int .i64 a0_6] 24 ?_; intro a1 hg w24 hbox hb; have a0 := yaa (hbox); have a2 := yaa ((by rw [hg]; exact (below_size (upH HB.out)) : w.heap.size ≤ a1)); replace HB := yaa (below_step (upH HB.out) hb); have a3 := a2; clear hb hbox hg; obtain ⟨i6, i7, i8, i9, j0, j1, j2⟩ := cc7_ a0.out; obtain ⟨j3, j4, j5, j6, j7, j8⟩ := cf6_ a0.out; have j9 := blk_frozen a0.out 6) | (go_at_call 62; (with_reducible refine (impl_within.calls a0_1 1 9 false _ A3.out).mono ?_); rintro e w' ⟨rfl, ⟨nd, rfl⟩⟩))
   go_ret
   exact ⟨by first | rfl | (simp [*, errW_none, errW_some] <;> rfl), by repeat (with_reducible first | exact HB.out | apply below_alloc | apply pw_below_drewN | apply below_drew1 | refine below_set ?_ (Aside0.out ‹_›))⟩
 ·
  rw [if_neg c2] at H
  have l4 : decide ((l0_0.length : Int) ≤ 32) = false := decide_eq_false c2; have l5 : decide (l0_0.length ≤ 32) = false := decide_eq_false (by omega); clear c2; obtain rfl := Option.some.inj H
  go_enter Try.func14, Try.ntmps14
  go_wp2_with (first | ((with_reducible refine gd_ 1 rfl ?_); refine bx_ 1 rfl #[.slice A0_0 l0_0.length c0_0, .int .i64 a0_1, .int .i64 a0_2, .int .i64 a0_3, .int .i64 a0_4, .int .i64 a0_5, .int .i64 a0_6] 24 ?_; intro a1 hg w26 hbox hb; have a0 := yaa (hbox); have a2 := yaa ((by rw [hg]; exact (below_size (upH HB.out)) : w.heap.size ≤ a1)); replace HB := yaa (below_step (upH HB.out) hb); have a3 := a2; clear hb hbox hg; obtain ⟨k0, k1, k2, k3, k4, k5, k6⟩ := cc7_ a0.out; obtain ⟨k7, k8, k9, l0, l1, l2⟩ := cf6_ a0.out; have l3 := blk_frozen a0.out 6))
  go_ret
  exact ⟨by first | rfl | (simp [*, errW_none, errW_some] <;> rfl), by repeat (with_reducible first | exact HB.out | apply below_alloc | apply pw_below_drewN | apply below_drew1 | refine below_set ?_ (Aside0.out ‹_›))⟩
end
section
theorem eqA146 (d : Nat) (w : World) (x0 y0 : Int) (x1 y1 : Int) (x2 y2 : Int) (x3 y3 : Int) (x4 y4 : Int) :
    (Op.equalIn (d + 2) 146 (.agg #[.int .i64 x0, .int .i64 x1, .int .i64 x2, .int .i64 x3, .int .i64 x4]) (.agg #[.int .i64 y0, .int .i64 y1, .int .i64 y2, .int .i64 y3, .int .i64 y4])).run Try.prog w = .ok (x0 == y0 && (x1 == y1 && (x2 == y2 && (x3 == y3 && (x4 == y4))))) w := by
  refine eqA_of Try.underlying146 (by kernel_rfl) ?_
  refine eqf_cons (by rfl) (by go_simp; rfl) (by go_simp; rfl) (by go_simp) ?_
  refine eqf_cons (by rfl) (by go_simp; rfl) (by go_simp; rfl) (by go_simp) ?_
  refine eqf_cons (by rfl) (by go_simp; rfl) (by go_simp; rfl) (by go_simp) ?_
  refine eqf_cons (by rfl) (by go_simp; rfl) (by go_simp; rfl) (by go_simp) ?_
  exact eqf_last (by rfl) (by go_simp; rfl) (by go_simp; rfl) (by go_simp)
end
section
def impl_partOk.f (a0 : Int) : Option (Bool) := if a0 ≥ 0 then (some (decide (a0 ≤ 255))) else (some false)
set_option maxHeartbeats 8000000 in
set_option maxRecDepth 100000 in
theorem impl_partOk.calls (a0 : Int) (r : Bool) (w : World) (h : impl_partOk.f a0 = some r) :
    Calls Try.prog 118 #[.int .i64 a0] w fun e w' => e = .returned (.bool r) ∧ Drawn0 w w' := by
  have H : (if a0 ≥ 0 then (some (decide (a0 ≤ 255))) else (some false)) = some r := h; clear h
  by_cases c2 : a0 ≥ 0
  · rw [if_pos c2] at H
    have c2b0 : decide (0 ≤ a0) = true := decide_eq_true c2; clear c2; obtain rfl := Option.some.inj H
    go_enter Try.func118, Try.ntmps118
    go_wp2
    go_ret
    exact ⟨by first | rfl | (simp; done) | (simp [*]; done), by repeat (first | exact Drawn0.refl _ | apply Drawn0.step)⟩
  · rw [if_neg c2] at H
    have c2b0 : decide (0 ≤ a0) = false := decide_eq_false c2; clear c2; obtain rfl := Option.some.inj H
    go_enter Try.func118, Try.ntmps118
    go_wp2
    go_ret
    exact ⟨by first | rfl | (simp; done) | (simp [*]; done), by repeat (first | exact Drawn0.refl _ | apply Drawn0.step)⟩
end
section
def impl_sizeOk.f (a0 : Int) : Option (Bool) := if a0 ≥ 1 then (some (decide (a0 ≤ 6))) else (some false)
set_option maxHeartbeats 8000000 in
set_option maxRecDepth 100000 in
theorem impl_sizeOk.calls (a0 : Int) (r : Bool) (w : World) (h : impl_sizeOk.f a0 = some r) :
    Calls Try.prog 143 #[.int .i64 a0] w fun e w' => e = .returned (.bool r) ∧ Drawn0 w w' := by
  have H : (if a0 ≥ 1 then (some (decide (a0 ≤ 6))) else (some false)) = some r := h; clear h
  by_cases c2 : a0 ≥ 1
  · rw [if_pos c2] at H
    have c2b0 : decide (1 ≤ a0) = true := decide_eq_true c2; clear c2; obtain rfl := Option.some.inj H
    go_enter Try.func143, Try.ntmps143
    go_wp2
    go_ret
    exact ⟨by first | rfl | (simp; done) | (simp [*]; done), by repeat (first | exact Drawn0.refl _ | apply Drawn0.step)⟩
  · rw [if_neg c2] at H
    have c2b0 : decide (1 ≤ a0) = false := decide_eq_false c2; clear c2; obtain rfl := Option.some.inj H
    go_enter Try.func143, Try.ntmps143
    go_wp2
    go_ret
    exact ⟨by first | rfl | (simp; done) | (simp [*]; done), by repeat (first | exact Drawn0.refl _ | apply Drawn0.step)⟩
end
section
attribute [local go_sem high] eqA146
open Go.Proofs.YtgpkkkmapgnhkaaW.PrintWords renaming pw_below_drewN → yaa, below_alloc → yab, below_drew1 → yac, below_set → yae
open Go.Proofs.YtgpkkkmapgnhkaaW.PrintWords.Aside0 renaming mk → yad

def impl_OpOk.j0 : Nat → Int → Bool → Int → Int → Int → Int → Int → Option (Bool)
 | 0, _, _, _, _, _, _, _ => none
 | k + 1, x4, x25, x102000, x102001, x102002, x102003, x102004 => if x25 = true then (some (x102001 == 0 && (x102002 == 0 && (x102003 == 0 && (x102004 == 0))))) else (if x4 = 7 then ((impl_sizeOk.f x102001).bind fun t106 => (if t106 = true then ((impl_sizeOk.f x102002).bind fun t107 => (if t107 = true then (if x102003 = 0 then (some (x102004 == 0)) else (some false)) else (some false))) else (some false))) else (if x4 = 8 then ((impl_partOk.f x102001).bind fun t108 => (if t108 = true then ((impl_partOk.f x102002).bind fun t109 => (if t109 = true then ((impl_partOk.f x102003).bind fun t110 => (if t110 = true then (some (x102004 == 0)) else (some false))) else (some false))) else (some false))) else (some false)))
def impl_OpOk.f (k : Nat) (a0_0 : Int) (a0_1 : Int) (a0_2 : Int) (a0_3 : Int) (a0_4 : Int) : Option (Bool) := if a0_0 = 1 then ((impl_within.f a0_1 0 5).bind fun t102 => (if t102 = true then ((impl_within.f a0_2 0 5).bind fun t103 => (if t103 = true then ((impl_sizeOk.f a0_3).bind fun t104 => (if t104 = true then ((impl_sizeOk.f a0_4).bind fun t105 => (some t105)) else (some false))) else (some false))) else (some false))) else (if a0_0 = 2 then (impl_OpOk.j0 k a0_0 (a0_0 == 2) a0_0 a0_1 a0_2 a0_3 a0_4) else (if a0_0 = 3 then (impl_OpOk.j0 k a0_0 (a0_0 == 3) a0_0 a0_1 a0_2 a0_3 a0_4) else (if a0_0 = 4 then (impl_OpOk.j0 k a0_0 (a0_0 == 4) a0_0 a0_1 a0_2 a0_3 a0_4) else (if a0_0 = 5 then (impl_OpOk.j0 k a0_0 (a0_0 == 5) a0_0 a0_1 a0_2 a0_3 a0_4) else (impl_OpOk.j0 k a0_0 (a0_0 == 6) a0_0 a0_1 a0_2 a0_3 a0_4)))))
set_option maxHeartbeats 8000000 in
set_option maxRecDepth 100000 in
theorem impl_OpOk.calls (k : Nat) (a0_0 : Int) (a0_1 : Int) (a0_2 : Int) (a0_3 : Int) (a0_4 : Int) (r : Bool) (w : World) (h : impl_OpOk.f k a0_0 a0_1 a0_2 a0_3 a0_4 = some r) :
  Calls Try.prog 121 #[.agg #[.int .i64 a0_0, .int .i64 a0_1, .int .i64 a0_2, .int .i64 a0_3, .int .i64 a0_4]] w fun e w' => e = .returned (.bool r) ∧ Below w.heap.size w w' := by
 have hu146 := Try.underlying146; have HB := yad (Below.refl w.heap.size w); have H : (if a0_0 = 1 then ((impl_within.f a0_1 0 5).bind fun h6 => (if h6 = true then ((impl_within.f a0_2 0 5).bind fun h7 => (if h7 = true then ((impl_sizeOk.f a0_3).bind fun h8 => (if h8 = true then ((impl_sizeOk.f a0_4).bind fun h9 => (some h9)) else (some false))) else (some false))) else (some false))) else (if a0_0 = 2 then (impl_OpOk.j0 k a0_0 (a0_0 == 2) a0_0 a0_1 a0_2 a0_3 a0_4) else (if a0_0 = 3 then (impl_OpOk.j0 k a0_0 (a0_0 == 3) a0_0 a0_1 a0_2 a0_3 a0_4) else (if a0_0 = 4 then (impl_OpOk.j0 k a0_0 (a0_0 == 4) a0_0 a0_1 a0_2 a0_3 a0_4) else (if a0_0 = 5 then (impl_OpOk.j0 k a0_0 (a0_0 == 5) a0_0 a0_1 a0_2 a0_3 a0_4) else (impl_OpOk.j0 k a0_0 (a0_0 == 6) a0_0 a0_1 a0_2 a0_3 a0_4)))))) = some r := h; clear h
 by_cases c2 : a0_0 = 1
 ·
  rw [if_pos c2] at H
  have i0 := beq_iff_eq.mpr c2; have i1 := bne_eq_false_iff_eq.mpr c2; clear c2; obtain ⟨h6, A3, H⟩ := bindA H; (try dsimp only at H)
  by_cases c4 : h6 = true
  ·
   subst c4
   rw [if_pos rfl] at H
   obtain ⟨h7, A5, H⟩ := bindA H; (try dsimp only at H)
   by_cases c6 : h7 = true
   ·
    subst c6
    rw [if_pos rfl] at H
    obtain ⟨h8, A7, H⟩ := bindA H; (try dsimp only at H)
    by_cases c8 : h8 = true
    ·
     subst c8
     rw [if_pos rfl] at H
     obtain ⟨h9, A9, H⟩ := bindA H; (try dsimp only at H); obtain rfl := Option.some.inj H
     go_enter Try.func121, Try.ntmps121
     go_wp2_with (first | ((with_reducible refine gd_ 1 rfl ?_); refine bx_ 1 rfl #[.int .i64 a0_0, .int .i64 a0_1, .int .i64 a0_2, .int .i64 a0_3, .int .i64 a0_4] 146 ?_; intro a6 hg w10 hbox hb; have a5 := yad (hbox); have a7 := yad ((by rw [hg]; exact (below_size (upH HB.out)) : w.heap.size ≤ a6)); replace HB := yad (below_step (upH HB.out) hb); have b2 := a7; clear hb hbox hg; obtain ⟨b3, b4, b5, b6, b7⟩ := cc5_ a5.out; obtain ⟨b8, b9, c0, c3⟩ := cf4_ a5.out; have c7 := blk_frozen a5.out 4) | ((with_reducible refine gc_ 62 rfl ?_); refine gl_ (some 9) rfl Try.func62 #[.int .i64 a0_1, .int .i64 0, .int .i64 5] ?_; (with_reducible refine (impl_within.calls a0_1 0 5 true _ A3.out).mono ?_); rintro e w' ⟨rfl, ⟨nd, rfl⟩⟩; refine ⟨_, rfl, ?_⟩) | (go_at_call 62; (with_reducible refine (impl_within.calls a0_2 0 5 true _ A5.out).mono ?_); rintro e w' ⟨rfl, ⟨nd, rfl⟩⟩) | (go_at_call 143; (with_reducible refine (impl_sizeOk.calls a0_3 true _ A7.out).mono ?_); rintro e w' ⟨rfl, ⟨nd, rfl⟩⟩) | (go_at_call 143; (with_reducible refine (impl_sizeOk.calls a0_4 h9 _ A9.out).mono ?_); rintro e w' ⟨rfl, ⟨nd, rfl⟩⟩))
     go_ret
     exact ⟨by first | rfl | (simp [*, errW_none, errW_some] <;> rfl), by repeat (with_reducible first | exact HB.out | apply yab | apply yaa | apply yac | refine yae ?_ (Aside0.out ‹_›))⟩
    ·
     replace c8 := Bool.eq_false_iff.mpr c8
     subst c8
     rw [if_neg (show ¬ (false = true) by decide)] at H
     obtain rfl := Option.some.inj H
     go_enter Try.func121, Try.ntmps121
     go_wp2_with (first | ((with_reducible refine gd_ 1 rfl ?_); refine bx_ 1 rfl #[.int .i64 a0_0, .int .i64 a0_1, .int .i64 a0_2, .int .i64 a0_3, .int .i64 a0_4] 146 ?_; intro a6 hg w12 hbox hb; have a5 := yad (hbox); have a7 := yad ((by rw [hg]; exact (below_size (upH HB.out)) : w.heap.size ≤ a6)); replace HB := yad (below_step (upH HB.out) hb); have b2 := a7; clear hb hbox hg; obtain ⟨c9, d0, d1, d2, d3⟩ := cc5_ a5.out; obtain ⟨d4, d5, d6, d7⟩ := cf4_ a5.out; have d8 := blk_frozen a5.out 4) | ((with_reducible refine gc_ 62 rfl ?_); refine gl_ (some 9) rfl Try.func62 #[.int .i64 a0_1, .int .i64 0, .int .i64 5] ?_; (with_reducible refine (impl_within.calls a0_1 0 5 true _ A3.out).mono ?_); rintro e w' ⟨rfl, ⟨nd, rfl⟩⟩; refine ⟨_, rfl, ?_⟩) | (go_at_call 62; (with_reducible refine (impl_within.calls a0_2 0 5 true _ A5.out).mono ?_); rintro e w' ⟨rfl, ⟨nd, rfl⟩⟩) | (go_at_call 143; (with_reducible refine (impl_sizeOk.calls a0_3 false _ A7.out).mono ?_); rintro e w' ⟨rfl, ⟨nd, rfl⟩⟩))
     go_ret
     exact ⟨by first | rfl | (simp [*, errW_none, errW_some] <;> rfl), by repeat (with_reducible first | exact HB.out | apply yab | apply yaa | apply yac | refine yae ?_ (Aside0.out ‹_›))⟩
   ·
    replace c6 := Bool.eq_false_iff.mpr c6
    subst c6
    rw [if_neg (show ¬ (false = true) by decide)] at H
    obtain rfl := Option.some.inj H
    go_enter Try.func121, Try.ntmps121
    go_wp2_with (first | ((with_reducible refine gd_ 1 rfl ?_); refine bx_ 1 rfl #[.int .i64 a0_0, .int .i64 a0_1, .int .i64 a0_2, .int .i64 a0_3, .int .i64 a0_4] 146 ?_; intro a6 hg w14 hbox hb; have a5 := yad (hbox); have a7 := yad ((by rw [hg]; exact (below_size (upH HB.out)) : w.heap.size ≤ a6)); replace HB := yad (below_step (upH HB.out) hb); have b2 := a7; clear hb hbox hg; obtain ⟨d9, e0, e1, e2, e3⟩ := cc5_ a5.out; obtain ⟨e4, e5, e6, e7⟩ := cf4_ a5.out; have e8 := blk_frozen a5.out 4) | ((with_reducible refine gc_ 62 rfl ?_); refine gl_ (some 9) rfl Try.func62 #[.int .i64 a0_1, .int .i64 0, .int .i64 5] ?_; (with_reducible refine (impl_within.calls a0_1 0 5 true _ A3.out).mono ?_); rintro e w' ⟨rfl, ⟨nd, rfl⟩⟩; refine ⟨_, rfl, ?_⟩) | (go_at_call 62; (with_reducible refine (impl_within.calls a0_2 0 5 false _ A5.out).mono ?_); rintro e w' ⟨rfl, ⟨nd, rfl⟩⟩))
    go_ret
    exact ⟨by first | rfl | (simp [*, errW_none, errW_some] <;> rfl), by repeat (with_reducible first | exact HB.out | apply yab | apply yaa | apply yac | refine yae ?_ (Aside0.out ‹_›))⟩
  ·
   replace c4 := Bool.eq_false_iff.mpr c4
   subst c4
   rw [if_neg (show ¬ (false = true) by decide)] at H
   obtain rfl := Option.some.inj H
   go_enter Try.func121, Try.ntmps121
   go_wp2_with (first | ((with_reducible refine gd_ 1 rfl ?_); refine bx_ 1 rfl #[.int .i64 a0_0, .int .i64 a0_1, .int .i64 a0_2, .int .i64 a0_3, .int .i64 a0_4] 146 ?_; intro a6 hg w16 hbox hb; have a5 := yad (hbox); have a7 := yad ((by rw [hg]; exact (below_size (upH HB.out)) : w.heap.size ≤ a6)); replace HB := yad (below_step (upH HB.out) hb); have b2 := a7; clear hb hbox hg; obtain ⟨e9, f0, f1, f2, f3⟩ := cc5_ a5.out; obtain ⟨f4, f5, f6, f7⟩ := cf4_ a5.out; have f8 := blk_frozen a5.out 4) | ((with_reducible refine gc_ 62 rfl ?_); refine gl_ (some 9) rfl Try.func62 #[.int .i64 a0_1, .int .i64 0, .int .i64 5] ?_; (with_reducible refine (impl_within.calls a0_1 0 5 false _ A3.out).mono ?_); rintro e w' ⟨rfl, ⟨nd, rfl⟩⟩; refine ⟨_, rfl, ?_⟩))
   go_ret
   exact ⟨by first | rfl | (simp [*, errW_none, errW_some] <;> rfl), by repeat (with_reducible first | exact HB.out | apply yab | apply yaa | apply yac | refine yae ?_ (Aside0.out ‹_›))⟩
 ·
  rw [if_neg c2] at H
  have i0 := beq_eq_false_iff_ne.mpr c2; have i1 := bne_iff_ne.mpr c2; have HC18 := yad H; clear H
  go_enter Try.func121, Try.ntmps121
  go_upto_if 25 with (first | ((with_reducible refine gd_ 1 rfl ?_); refine bx_ 1 rfl #[.int .i64 a0_0, .int .i64 a0_1, .int .i64 a0_2, .int .i64 a0_3, .int .i64 a0_4] 146 ?_; intro a6 hg w19 hbox hb; have a5 := yad (hbox); have a7 := yad ((by rw [hg]; exact (below_size (upH HB.out)) : w.heap.size ≤ a6)); replace HB := yad (below_step (upH HB.out) hb); have b2 := a7; clear hb hbox hg; obtain ⟨f9, g0, g1, g2, g3⟩ := cc5_ a5.out; obtain ⟨g4, g5, g6, g7⟩ := cf4_ a5.out; have g8 := blk_frozen a5.out 4))
  (try simp only [Act.put, List.setIfInBounds_toArray, List.set_cons_zero, List.set_cons_succ])
  go_cut [25] (fun v25 wc => ∃ (kq : Nat) (b0 : Bool), v25 = .bool b0 ∧ Aside0 (impl_OpOk.j0 kq a0_0 b0 a0_0 a0_1 a0_2 a0_3 a0_4 = some r) ∧ Aside0 (kq ≤ k) ∧ Aside0 (wc.heap[a6]? = some (.cells #[.int .i64 a0_0, .int .i64 a0_1, .int .i64 a0_2, .int .i64 a0_3, .int .i64 a0_4] 146 (0, 0))) ∧ Aside0 (Below w.heap.size w wc))
  case first =>
   have H := HC18.out; clear HC18
   by_cases c21 : a0_0 = 2
   ·
    rw [if_pos c21] at H
    have a9 := beq_iff_eq.mpr c21; have g9 := bne_eq_false_iff_eq.mpr c21; clear c21
    (first | rw [a9] | (simp only [i64_w, i32_w]; rw [a9]) | skip)
    have H' := yad H; clear H
    go_wp2
    go_meet
    case rel => exact ⟨_, ((a0_0 == 2)), (by first | rfl | (simp; done) | (simp [*]; done)), H', ⟨by first | omega | exact Nat.le_refl _⟩, ⟨by exact upB a5.out⟩, ⟨by repeat (with_reducible first | exact HB.out | apply yab | apply yaa | apply yac | refine yae ?_ (Aside0.out ‹_›))⟩⟩
   ·
    rw [if_neg c21] at H
    have a9 := beq_eq_false_iff_ne.mpr c21; have g9 := bne_iff_ne.mpr c21
    (first | rw [a9] | (simp only [i64_w, i32_w]; rw [a9]) | skip)
    by_cases c22 : a0_0 = 3
    ·
     rw [if_pos c22] at H
     have h0 := beq_iff_eq.mpr c22; have h1 := bne_eq_false_iff_eq.mpr c22; clear c22; have H' := yad H; clear H
     go_wp2
     go_meet
     case rel => exact ⟨_, ((a0_0 == 3)), (by first | rfl | (simp; done) | (simp [*]; done)), H', ⟨by first | omega | exact Nat.le_refl _⟩, ⟨by exact upB a5.out⟩, ⟨by repeat (with_reducible first | exact HB.out | apply yab | apply yaa | apply yac | refine yae ?_ (Aside0.out ‹_›))⟩⟩
    ·
     rw [if_neg c22] at H
     have h0 := beq_eq_false_iff_ne.mpr c22; have h1 := bne_iff_ne.mpr c22
     by_cases c23 : a0_0 = 4
     ·
      rw [if_pos c23] at H
      have h2 := beq_iff_eq.mpr c23; have h3 := bne_eq_false_iff_eq.mpr c23; clear c23; have H' := yad H; clear H
      go_wp2
      go_meet
      case rel => exact ⟨_, ((a0_0 == 4)), (by first | rfl | (simp; done) | (simp [*]; done)), H', ⟨by first | omega | exact Nat.le_refl _⟩, ⟨by exact upB a5.out⟩, ⟨by repeat (with_reducible first | exact HB.out | apply yab | apply yaa | apply yac | refine yae ?_ (Aside0.out ‹_›))⟩⟩
     ·
      rw [if_neg c23] at H
      have h2 := beq_eq_false_iff_ne.mpr c23; have h3 := bne_iff_ne.mpr c23
      by_cases c24 : a0_0 = 5
      ·
       rw [if_pos c24] at H
       have h4 := beq_iff_eq.mpr c24; have h5 := bne_eq_false_iff_eq.mpr c24; clear c24; have H' := yad H; clear H
       go_wp2
       go_meet
       case rel => exact ⟨_, ((a0_0 == 5)), (by first | rfl | (simp; done) | (simp [*]; done)), H', ⟨by first | omega | exact Nat.le_refl _⟩, ⟨by exact upB a5.out⟩, ⟨by repeat (with_reducible first | exact HB.out | apply yab | apply yaa | apply yac | refine yae ?_ (Aside0.out ‹_›))⟩⟩
      ·
       rw [if_neg c24] at H
       have h4 := beq_eq_false_iff_ne.mpr c24; have h5 := bne_iff_ne.mpr c24; have H' := yad H; clear H
       go_wp2
       go_meet
       case rel => exact ⟨_, ((a0_0 == 6)), (by first | rfl | (simp; done) | (simp [*]; done)), H', ⟨by first | omega | exact Nat.le_refl _⟩, ⟨by exact upB a5.out⟩, ⟨by repeat (with_reducible first | exact HB.out | apply yab | apply yaa | apply yac | refine yae ?_ (Aside0.out ‹_›))⟩⟩
  case rest =>
   clear HC18; (try clear c1); (try clear c2); (try clear i0); (try clear i1); (try clear p2); (try clear c4); (try clear c6); (try clear c8); (try clear c12); (try clear c21); (try clear a9); (try clear g9); (try clear c22); (try clear h0); (try clear h1); (try clear c23); (try clear h2); (try clear h3); (try clear c24); (try clear h4); (try clear h5); (try clear b3); (try clear b4); (try clear b5); (try clear b6); (try clear b7); (try clear c9); (try clear d0); (try clear d1); (try clear d2); (try clear d3); (try clear d9); (try clear e0); (try clear e1); (try clear e2); (try clear e3); (try clear e9); (try clear f0); (try clear f1); (try clear f2); (try clear f3); (try clear f9); (try clear g0); (try clear g1); (try clear g2); (try clear g3); (try clear b8); (try clear b9); (try clear c0); (try clear c3); (try clear c7); (try clear d4); (try clear d5); (try clear d6); (try clear d7); (try clear d8); (try clear e4); (try clear e5); (try clear e6); (try clear e7); (try clear e8); (try clear f4); (try clear f5); (try clear f6); (try clear f7); (try clear f8); (try clear g4); (try clear g5); (try clear g6); (try clear g7); (try clear g8); obtain ⟨kq, b0, rfl, HA, HJ17, a5, HB⟩ := hcut
   cases kq with
   | zero => exact absurd HA.out (by simp [impl_OpOk.j0])
   | succ kj17 =>
    have H := HA.out; clear HA
    simp only [impl_OpOk.j0] at H
    by_cases c25 : b0 = true
    ·
     subst c25
     rw [if_pos rfl] at H
     obtain rfl := Option.some.inj H; obtain ⟨i8, i9, j1, j2, j3⟩ := cc5_ a5.out; obtain ⟨j4, j5, j6, j7, j8⟩ := cf5_ a5.out
     go_wp2
     go_ret
     exact ⟨by first | rfl | (simp [*, errW_none, errW_some] <;> rfl), by repeat (with_reducible first | exact HB.out | apply yab | apply yaa | apply yac | refine yae ?_ (Aside0.out ‹_›))⟩
    ·
     replace c25 := Bool.eq_false_iff.mpr c25
     subst c25
     rw [if_neg (show ¬ (false = true) by decide)] at H
     by_cases c27 : a0_0 = 7
     ·
      rw [if_pos c27] at H
      have i2 := beq_iff_eq.mpr c27; have i3 := bne_eq_false_iff_eq.mpr c27; clear c27; obtain ⟨s0, A28, H⟩ := bindA H; (try dsimp only at H)
      by_cases c29 : s0 = true
      ·
       subst c29
       rw [if_pos rfl] at H
       obtain ⟨s1, A30, H⟩ := bindA H; (try dsimp only at H)
       by_cases c31 : s1 = true
       ·
        subst c31
        rw [if_pos rfl] at H
        by_cases c32 : a0_3 = 0
        ·
         rw [if_pos c32] at H
         have i4 := beq_iff_eq.mpr c32; have i5 := bne_eq_false_iff_eq.mpr c32; clear c32; obtain rfl := Option.some.inj H; obtain ⟨j9, k0, k1, k2, k3⟩ := cc5_ a5.out; obtain ⟨k4, k5, k6, k7, k8⟩ := cf5_ a5.out
         go_wp2_with (first | ((with_reducible refine gc_ 143 rfl ?_); refine gl_ (some 40) rfl Try.func143 #[.int .i64 a0_1] ?_; (with_reducible refine (impl_sizeOk.calls a0_1 true _ A28.out).mono ?_); rintro e w' ⟨rfl, ⟨nd, rfl⟩⟩; refine ⟨_, rfl, ?_⟩) | (go_at_call 143; (with_reducible refine (impl_sizeOk.calls a0_2 true _ A30.out).mono ?_); rintro e w' ⟨rfl, ⟨nd, rfl⟩⟩))
         go_ret
         exact ⟨by first | rfl | (simp [*, errW_none, errW_some] <;> rfl), by repeat (with_reducible first | exact HB.out | apply yab | apply yaa | apply yac | refine yae ?_ (Aside0.out ‹_›))⟩
        ·
         rw [if_neg c32] at H
         have i4 := beq_eq_false_iff_ne.mpr c32; have i5 := bne_iff_ne.mpr c32; obtain rfl := Option.some.inj H; obtain ⟨k9, l0, l1, l2, l3⟩ := cc5_ a5.out; obtain ⟨l4, l5, l6, l7, l8⟩ := cf5_ a5.out
         go_wp2_with (first | ((with_reducible refine gc_ 143 rfl ?_); refine gl_ (some 40) rfl Try.func143 #[.int .i64 a0_1] ?_; (with_reducible refine (impl_sizeOk.calls a0_1 true _ A28.out).mono ?_); rintro e w' ⟨rfl, ⟨nd, rfl⟩⟩; refine ⟨_, rfl, ?_⟩) | (go_at_call 143; (with_reducible refine (impl_sizeOk.calls a0_2 true _ A30.out).mono ?_); rintro e w' ⟨rfl, ⟨nd, rfl⟩⟩))
         go_ret
         exact ⟨by first | rfl | (simp [*, errW_none, errW_some] <;> rfl), by repeat (with_reducible first | exact HB.out | apply yab | apply yaa | apply yac | refine yae ?_ (Aside0.out ‹_›))⟩
       ·
        replace c31 := Bool.eq_false_iff.mpr c31
        subst c31
        rw [if_neg (show ¬ (false = true) by decide)] at H
        obtain rfl := Option.some.inj H; obtain ⟨l9, m0, m1, m2, m3⟩ := cc5_ a5.out; obtain ⟨m4, m5, m6, m7, m8⟩ := cf5_ a5.out
        go_wp2_with (first | ((with_reducible refine gc_ 143 rfl ?_); refine gl_ (some 40) rfl Try.func143 #[.int .i64 a0_1] ?_; (with_reducible refine (impl_sizeOk.calls a0_1 true _ A28.out).mono ?_); rintro e w' ⟨rfl, ⟨nd, rfl⟩⟩; refine ⟨_, rfl, ?_⟩) | (go_at_call 143; (with_reducible refine (impl_sizeOk.calls a0_2 false _ A30.out).mono ?_); rintro e w' ⟨rfl, ⟨nd, rfl⟩⟩))
        go_ret
        exact ⟨by first | rfl | (simp [*, errW_none, errW_some] <;> rfl), by repeat (with_reducible first | exact HB.out | apply yab | apply yaa | apply yac | refine yae ?_ (Aside0.out ‹_›))⟩
      ·
       replace c29 := Bool.eq_false_iff.mpr c29
       subst c29
       rw [if_neg (show ¬ (false = true) by decide)] at H
       obtain rfl := Option.some.inj H; obtain ⟨m9, n0, n1, n2, n3⟩ := cc5_ a5.out; obtain ⟨n4, n5, n6, n7, n8⟩ := cf5_ a5.out
       go_wp2_with (first | ((with_reducible refine gc_ 143 rfl ?_); refine gl_ (some 40) rfl Try.func143 #[.int .i64 a0_1] ?_; (with_reducible refine (impl_sizeOk.calls a0_1 false _ A28.out).mono ?_); rintro e w' ⟨rfl, ⟨nd, rfl⟩⟩; refine ⟨_, rfl, ?_⟩))
       go_ret
       exact ⟨by first | rfl | (simp [*, errW_none, errW_some] <;> rfl), by repeat (with_reducible first | exact HB.out | apply yab | apply yaa | apply yac | refine yae ?_ (Aside0.out ‹_›))⟩
     ·
      rw [if_neg c27] at H
      have i2 := beq_eq_false_iff_ne.mpr c27; have i3 := bne_iff_ne.mpr c27
      by_cases c37 : a0_0 = 8
      ·
       rw [if_pos c37] at H
       have i6 := beq_iff_eq.mpr c37; have i7 := bne_eq_false_iff_eq.mpr c37; clear c37; obtain ⟨s2, A38, H⟩ := bindA H; (try dsimp only at H)
       by_cases c39 : s2 = true
       ·
        subst c39
        rw [if_pos rfl] at H
        obtain ⟨s3, A40, H⟩ := bindA H; (try dsimp only at H)
        by_cases c41 : s3 = true
        ·
         subst c41
         rw [if_pos rfl] at H
         obtain ⟨s4, A42, H⟩ := bindA H; (try dsimp only at H)
         by_cases c43 : s4 = true
         ·
          subst c43
          rw [if_pos rfl] at H
          obtain rfl := Option.some.inj H; obtain ⟨n9, o0, o1, o2, o3⟩ := cc5_ a5.out; obtain ⟨o4, o5, o6, o7, o8⟩ := cf5_ a5.out
          go_wp2_with (first | ((with_reducible refine gc_ 118 rfl ?_); refine gl_ (some 60) rfl Try.func118 #[.int .i64 a0_1] ?_; (with_reducible refine (impl_partOk.calls a0_1 true _ A38.out).mono ?_); rintro e w' ⟨rfl, ⟨nd, rfl⟩⟩; refine ⟨_, rfl, ?_⟩) | (go_at_call 118; (with_reducible refine (impl_partOk.calls a0_2 true _ A40.out).mono ?_); rintro e w' ⟨rfl, ⟨nd, rfl⟩⟩) | (go_at_call 118; (with_reducible refine (impl_partOk.calls a0_3 true _ A42.out).mono ?_); rintro e w' ⟨rfl, ⟨nd, rfl⟩⟩))
          go_ret
          exact ⟨by first | rfl | (simp [*, errW_none, errW_some] <;> rfl), by repeat (with_reducible first | exact HB.out | apply yab | apply yaa | apply yac | refine yae ?_ (Aside0.out ‹_›))⟩
         ·
          replace c43 := Bool.eq_false_iff.mpr c43
          subst c43
          rw [if_neg (show ¬ (false = true) by decide)] at H
          obtain rfl := Option.some.inj H; obtain ⟨o9, p0, p1, p3, p4⟩ := cc5_ a5.out; obtain ⟨p5, p6, p7, p8, p9⟩ := cf5_ a5.out
          go_wp2_with (first | ((with_reducible refine gc_ 118 rfl ?_); refine gl_ (some 60) rfl Try.func118 #[.int .i64 a0_1] ?_; (with_reducible refine (impl_partOk.calls a0_1 true _ A38.out).mono ?_); rintro e w' ⟨rfl, ⟨nd, rfl⟩⟩; refine ⟨_, rfl, ?_⟩) | (go_at_call 118; (with_reducible refine (impl_partOk.calls a0_2 true _ A40.out).mono ?_); rintro e w' ⟨rfl, ⟨nd, rfl⟩⟩) | (go_at_call 118; (with_reducible refine (impl_partOk.calls a0_3 false _ A42.out).mono ?_); rintro e w' ⟨rfl, ⟨nd, rfl⟩⟩))
          go_ret
          exact ⟨by first | rfl | (simp [*, errW_none, errW_some] <;> rfl), by repeat (with_reducible first | exact HB.out | apply yab | apply yaa | apply yac | refine yae ?_ (Aside0.out ‹_›))⟩
        ·
         replace c41 := Bool.eq_false_iff.mpr c41
         subst c41
         rw [if_neg (show ¬ (false = true) by decide)] at H
         obtain rfl := Option.some.inj H; obtain ⟨q0, q1, q2, q3, q4⟩ := cc5_ a5.out; obtain ⟨q5, q6, q7, q8, q9⟩ := cf5_ a5.out
         go_wp2_with (first | ((with_reducible refine gc_ 118 rfl ?_); refine gl_ (some 60) rfl Try.func118 #[.int .i64 a0_1] ?_; (with_reducible refine (impl_partOk.calls a0_1 true _ A38.out).mono ?_); rintro e w' ⟨rfl, ⟨nd, rfl⟩⟩; refine ⟨_, rfl, ?_⟩) | (go_at_call 118; (with_reducible refine (impl_partOk.calls a0_2 false _ A40.out).mono ?_); rintro e w' ⟨rfl, ⟨nd, rfl⟩⟩))
         go_ret
         exact ⟨by first | rfl | (simp [*, errW_none, errW_some] <;> rfl), by repeat (with_reducible first | exact HB.out | apply yab | apply yaa | apply yac | refine yae ?_ (Aside0.out ‹_›))⟩
       ·
        replace c39 := Bool.eq_false_iff.mpr c39
        subst c39
        rw [if_neg (show ¬ (false = true) by decide)] at H
        obtain rfl := Option.some.inj H; obtain ⟨r0, r1, r2, r3, r4⟩ := cc5_ a5.out; obtain ⟨r5, r6, r7, r8, r9⟩ := cf5_ a5.out
        go_wp2_with (first | ((with_reducible refine gc_ 118 rfl ?_); refine gl_ (some 60) rfl Try.func118 #[.int .i64 a0_1] ?_; (with_reducible refine (impl_partOk.calls a0_1 false _ A38.out).mono ?_); rintro e w' ⟨rfl, ⟨nd, rfl⟩⟩; refine ⟨_, rfl, ?_⟩))
        go_ret
        exact ⟨by first | rfl | (simp [*, errW_none, errW_some] <;> rfl), by repeat (with_reducible first | exact HB.out | apply yab | apply yaa | apply yac | refine yae ?_ (Aside0.out ‹_›))⟩
      ·
       rw [if_neg c37] at H
       have i6 := beq_eq_false_iff_ne.mpr c37; have i7 := bne_iff_ne.mpr c37; obtain rfl := Option.some.inj H
       go_wp2
       go_ret
       exact ⟨by first | rfl | (simp [*, errW_none, errW_some] <;> rfl), by repeat (with_reducible first | exact HB.out | apply yab | apply yaa | apply yac | refine yae ?_ (Aside0.out ‹_›))⟩
end
section
open Go.Proofs.Ytgpkkkmapgnhkaa.X renaming rd_T146 → yaa

def impl_opsOk.l0 : Nat → List (S146) → Int → Int → Option (Bool)
 | 0, _, _, _ => none
 | k + 1, x8, x9, x10 => if x10 < x9 then (if 0 ≤ x10 then (if x10 < (x8.length : Int) then ((impl_OpOk.f k ((rd_T146 x8 x10).f0) ((rd_T146 x8 x10).f1) ((rd_T146 x8 x10).f2) ((rd_T146 x8 x10).f3) ((rd_T146 x8 x10).f4)).bind fun t103 => (if t103 = true then (impl_opsOk.l0 k x8 x9 (wrap64 (x10 + 1))) else (some false))) else (none)) else (none)) else (some true)
def impl_opsOk.f (k : Nat) (l0 : List (S146)) : Option (Bool) := if (l0.length : Int) > 5 then (some false) else (impl_opsOk.l0 k l0 (l0.length : Int) 0)
set_option maxHeartbeats 8000000 in
set_option maxRecDepth 100000 in
theorem impl_opsOk.calls (k : Nat) (A0 : Option Addr) (c0 : Nat) (l0 : List (S146)) (r : Bool) (w : World) (hr0 : Kd.C k146 w A0 l0.length l0) (hc0 : l0.length ≤ c0) (h : impl_opsOk.f k l0 = some r) :
  Calls Try.prog 72 #[.slice A0 l0.length c0] w fun e w' => e = .returned (.bool r) ∧ Below w.heap.size w w' := by
 have hu146 := Try.underlying146; have HR0 := Aside0.mk hr0; have HC0 := Aside0.mk hc0; clear hr0 hc0; have HB := Aside0.mk (Below.refl w.heap.size w); have H : (if (l0.length : Int) > 5 then (some false) else (impl_opsOk.l0 k l0 (l0.length : Int) 0)) = some r := h; clear h
 by_cases c2 : (l0.length : Int) > 5
 ·
  rw [if_pos c2] at H
  have b1 : decide (5 < (l0.length : Int)) = true := decide_eq_true c2; have b2 : decide (5 < l0.length) = true := decide_eq_true (by omega); clear c2; obtain rfl := Option.some.inj H
  go_enter Try.func72, Try.ntmps72
  go_wp2
  go_ret
  exact ⟨by first | rfl | (simp [*, errW_none, errW_some] <;> rfl), upH HB.out⟩
 ·
  rw [if_neg c2] at H
  have b1 : decide (5 < (l0.length : Int)) = false := decide_eq_false c2; have b2 : decide (5 < l0.length) = false := decide_eq_false (by omega); clear c2; have H' := Aside0.mk H; clear H
  go_enter Try.func72, Try.ntmps72
  go_wp2
  (try simp only [Act.put, List.setIfInBounds_toArray, List.set_cons_zero, List.set_cons_succ])
  go_loopg [10] k (fun kq v10 w' => ∃ (a1 : Int), v10 = .int .i64 a1 ∧ Aside0 (impl_opsOk.l0 kq l0 (l0.length : Int) a1 = some r) ∧ Aside0 (kq ≤ k) ∧ Aside0 (Below w.heap.size w w'))
  case atStart => exact ⟨(0), (by first | rfl | (simp; done) | (simp [*]; done)), H', ⟨Nat.le_refl _⟩, ⟨upH HB.out⟩⟩
  case round =>
   clear H'; (try clear c2); (try clear b1); (try clear b2); (try clear p2); obtain ⟨a1, rfl, HA, HK1, HB⟩ := hrel
   cases gk with
   | zero => exact absurd HA.out (by simp [impl_opsOk.l0])
   | succ k1 =>
    have H := HA.out; clear HA
    simp only [impl_opsOk.l0] at H
    by_cases c3 : a1 < (l0.length : Int)
    ·
     rw [if_pos c3] at H
     have d0 : decide (a1 < (l0.length : Int)) = true := decide_eq_true c3; clear c3
     by_cases c4 : 0 ≤ a1
     ·
      rw [if_pos c4] at H
      replace c4 := decide_eq_true c4
      by_cases c5 : a1 < (l0.length : Int)
      ·
       rw [if_pos c5] at H
       replace c5 := decide_eq_true c5; obtain ⟨d1, A6, H⟩ := bindA H; (try dsimp only at H)
       by_cases c7 : d1 = true
       ·
        subst c7
        rw [if_pos rfl] at H
        have H' := Aside0.mk H; clear H
        have p101 : 0 ≤ (a1 : Int) := of_decide_eq_true (by first | (with_reducible assumption) | assumption)
        have q101 : a1 < (l0.length : Int) := of_decide_eq_true (by first | (with_reducible assumption) | assumption)
        obtain ⟨ad101, b0, a2, a3, a4, a5, a6⟩ := at_T146 HR0.out a1 p101 q101
        cases b0
        replace a2 := (HB.out.cell (World.block_lt_of_cell? w _ a2)).trans a2; replace a3 := (HB.out.cell (World.block_lt_of_cell? w _ a3)).trans a3; replace a4 := (HB.out.cell (World.block_lt_of_cell? w _ a4)).trans a4; replace a5 := (HB.out.cell (World.block_lt_of_cell? w _ a5)).trans a5; replace a6 := (HB.out.cell (World.block_lt_of_cell? w _ a6)).trans a6; replace p101 := eq_true p101; replace q101 := eq_true q101
        go_wp2_with (first | ((with_reducible refine gd_ 4 rfl ?_); refine bx_ 4 rfl #[.int .i64 0, .int .i64 0, .int .i64 0, .int .i64 0, .int .i64 0] 146 ?_; intro a8 hg w8 hbox hb; have a7 := Aside0.mk (hbox); have a9 := Aside0.mk ((by rw [hg]; exact (below_size (upH HB.out)) : w.heap.size ≤ a8)); replace HB := Aside0.mk (below_step (upH HB.out) hb); have b3 := a9; clear hb hbox hg; obtain ⟨d2, d3, d4, d5, d6⟩ := cc5_ a7.out; obtain ⟨d8, d9, e0, e1⟩ := cf4_ a7.out; have e3 := blk_frozen a7.out 4) | ((with_reducible refine gc_ 121 rfl ?_); refine gl_ (some 15) rfl Try.func121 #[.agg #[.int .i64 ((yaa l0 a1).f0), .int .i64 ((yaa l0 a1).f1), .int .i64 ((yaa l0 a1).f2), .int .i64 ((yaa l0 a1).f3), .int .i64 ((yaa l0 a1).f4)]] ?_; (with_reducible refine (impl_OpOk.calls k1 ((yaa l0 a1).f0) ((yaa l0 a1).f1) ((yaa l0 a1).f2) ((yaa l0 a1).f3) ((yaa l0 a1).f4) true _ A6.out).mono ?_); rintro e w10 ⟨rfl, hb⟩; refine ⟨_, rfl, ?_⟩; replace a7 := Aside0.mk (blk_below (g := a8) (o := .cells #[.int .i64 ((yaa l0 a1).f0), .int .i64 ((yaa l0 a1).f1), .int .i64 ((yaa l0 a1).f2), .int .i64 ((yaa l0 a1).f3), .int .i64 ((yaa l0 a1).f4)] 146 (0, 0)) (by (repeat refine oneB ?_); refine blk_put (cs := #[.int .i64 ((yaa l0 a1).f0), .int .i64 ((yaa l0 a1).f1), .int .i64 ((yaa l0 a1).f2), .int .i64 ((yaa l0 a1).f3), .int .i64 0]) ?_ 4 _ rfl; refine blk_put (cs := #[.int .i64 ((yaa l0 a1).f0), .int .i64 ((yaa l0 a1).f1), .int .i64 ((yaa l0 a1).f2), .int .i64 0, .int .i64 0]) ?_ 3 _ rfl; refine blk_put (cs := #[.int .i64 ((yaa l0 a1).f0), .int .i64 ((yaa l0 a1).f1), .int .i64 0, .int .i64 0, .int .i64 0]) ?_ 2 _ rfl; refine blk_put (cs := #[.int .i64 ((yaa l0 a1).f0), .int .i64 0, .int .i64 0, .int .i64 0, .int .i64 0]) ?_ 1 _ rfl; refine blk_put (cs := #[.int .i64 0, .int .i64 0, .int .i64 0, .int .i64 0, .int .i64 0]) ?_ 0 _ rfl; exact upB a7.out) hb); replace HB := Aside0.mk (below_step (by repeat (with_reducible first | exact HB.out | apply below_alloc | apply pw_below_drewN | apply below_drew1 | refine below_set ?_ (Aside0.out ‹_›))) hb); (try clear hb)))
        go_roundg k1
        case measure => have := HK1.out; omega
        case rel => exact ⟨(wrap64 (a1 + 1)), (by first | rfl | (simp; done) | (simp [*]; done)), H', ⟨by have := HK1.out; omega⟩, ⟨by repeat (with_reducible first | exact HB.out | apply below_alloc | apply pw_below_drewN | apply below_drew1 | refine below_set ?_ (Aside0.out ‹_›))⟩⟩
       ·
        replace c7 := Bool.eq_false_iff.mpr c7
        subst c7
        rw [if_neg (show ¬ (false = true) by decide)] at H
        obtain rfl := Option.some.inj H
        have p101 : 0 ≤ (a1 : Int) := of_decide_eq_true (by first | (with_reducible assumption) | assumption)
        have q101 : a1 < (l0.length : Int) := of_decide_eq_true (by first | (with_reducible assumption) | assumption)
        obtain ⟨ad101, b0, a2, a3, a4, a5, a6⟩ := at_T146 HR0.out a1 p101 q101
        cases b0
        replace a2 := (HB.out.cell (World.block_lt_of_cell? w _ a2)).trans a2; replace a3 := (HB.out.cell (World.block_lt_of_cell? w _ a3)).trans a3; replace a4 := (HB.out.cell (World.block_lt_of_cell? w _ a4)).trans a4; replace a5 := (HB.out.cell (World.block_lt_of_cell? w _ a5)).trans a5; replace a6 := (HB.out.cell (World.block_lt_of_cell? w _ a6)).trans a6; replace p101 := eq_true p101; replace q101 := eq_true q101
        go_wp2_with (first | ((with_reducible refine gd_ 4 rfl ?_); refine bx_ 4 rfl #[.int .i64 0, .int .i64 0, .int .i64 0, .int .i64 0, .int .i64 0] 146 ?_; intro a8 hg w11 hbox hb; have a7 := Aside0.mk (hbox); have a9 := Aside0.mk ((by rw [hg]; exact (below_size (upH HB.out)) : w.heap.size ≤ a8)); replace HB := Aside0.mk (below_step (upH HB.out) hb); have b3 := a9; clear hb hbox hg; obtain ⟨b4, b5, b6, b7, b8⟩ := cc5_ a7.out; obtain ⟨b9, c1, c6, c8⟩ := cf4_ a7.out; have c9 := blk_frozen a7.out 4) | ((with_reducible refine gc_ 121 rfl ?_); refine gl_ (some 15) rfl Try.func121 #[.agg #[.int .i64 ((yaa l0 a1).f0), .int .i64 ((yaa l0 a1).f1), .int .i64 ((yaa l0 a1).f2), .int .i64 ((yaa l0 a1).f3), .int .i64 ((yaa l0 a1).f4)]] ?_; (with_reducible refine (impl_OpOk.calls k1 ((yaa l0 a1).f0) ((yaa l0 a1).f1) ((yaa l0 a1).f2) ((yaa l0 a1).f3) ((yaa l0 a1).f4) false _ A6.out).mono ?_); rintro e w13 ⟨rfl, hb⟩; refine ⟨_, rfl, ?_⟩; replace a7 := Aside0.mk (blk_below (g := a8) (o := .cells #[.int .i64 ((yaa l0 a1).f0), .int .i64 ((yaa l0 a1).f1), .int .i64 ((yaa l0 a1).f2), .int .i64 ((yaa l0 a1).f3), .int .i64 ((yaa l0 a1).f4)] 146 (0, 0)) (by (repeat refine oneB ?_); refine blk_put (cs := #[.int .i64 ((yaa l0 a1).f0), .int .i64 ((yaa l0 a1).f1), .int .i64 ((yaa l0 a1).f2), .int .i64 ((yaa l0 a1).f3), .int .i64 0]) ?_ 4 _ rfl; refine blk_put (cs := #[.int .i64 ((yaa l0 a1).f0), .int .i64 ((yaa l0 a1).f1), .int .i64 ((yaa l0 a1).f2), .int .i64 0, .int .i64 0]) ?_ 3 _ rfl; refine blk_put (cs := #[.int .i64 ((yaa l0 a1).f0), .int .i64 ((yaa l0 a1).f1), .int .i64 0, .int .i64 0, .int .i64 0]) ?_ 2 _ rfl; refine blk_put (cs := #[.int .i64 ((yaa l0 a1).f0), .int .i64 0, .int .i64 0, .int .i64 0, .int .i64 0]) ?_ 1 _ rfl; refine blk_put (cs := #[.int .i64 0, .int .i64 0, .int .i64 0, .int .i64 0, .int .i64 0]) ?_ 0 _ rfl; exact upB a7.out) hb); replace HB := Aside0.mk (below_step (by repeat (with_reducible first | exact HB.out | apply below_alloc | apply pw_below_drewN | apply below_drew1 | refine below_set ?_ (Aside0.out ‹_›))) hb); (try clear hb)))
        go_ret
        exact ⟨by first | rfl | (simp [*, errW_none, errW_some] <;> rfl), by repeat (with_reducible first | exact HB.out | apply below_alloc | apply pw_below_drewN | apply below_drew1 | refine below_set ?_ (Aside0.out ‹_›))⟩
      ·
       rw [if_neg c5] at H
       exact absurd H (by simp)
     ·
      rw [if_neg c4] at H
      exact absurd H (by simp)
    ·
     rw [if_neg c3] at H
     have d0 : decide (a1 < (l0.length : Int)) = false := decide_eq_false c3; clear c3; obtain rfl := Option.some.inj H
     go_wp2
     go_ret
     exact ⟨by first | rfl | (simp [*, errW_none, errW_some] <;> rfl), upH HB.out⟩
end
section
open Go.Proofs.YtgpkkkmapgnhkaaW.PrintWords.Drawn0 renaming refl → yaa, step → yab

mutual
def impl_nameOk.j0 : Nat → ByteArray → Bool → Option (Bool)
 | 0, _, _ => none
 | k + 1, x0, x13 => if x13 = true then (some false) else (impl_nameOk.l0 k x0 (x0.size : Int) 0)
def impl_nameOk.l0 : Nat → ByteArray → Int → Int → Option (Bool)
 | 0, _, _, _ => none
 | k + 1, x0, x15, x16 => if x16 < x15 then (if 0 ≤ x16 then (if x16 < (x0.size : Int) then (if (bt x0 x16) ≥ 97 then (if (bt x0 x16) ≥ 48 then (if ((bt x0 x16) ≤ 122) then (impl_nameOk.l0 k x0 x15 (wrap64 (x16 + 1))) else (if ((bt x0 x16) ≤ 57) then (impl_nameOk.l0 k x0 x15 (wrap64 (x16 + 1))) else (some false))) else (if ((bt x0 x16) ≤ 122) then (impl_nameOk.l0 k x0 x15 (wrap64 (x16 + 1))) else (some false))) else (if (bt x0 x16) ≥ 48 then (if ((bt x0 x16) ≤ 57) then (impl_nameOk.l0 k x0 x15 (wrap64 (x16 + 1))) else (some false)) else (some false))) else (none)) else (none)) else (some true)
end
def impl_nameOk.f (k : Nat) (a0 : ByteArray) : Option (Bool) := if (a0.size : Int) < 1 then (impl_nameOk.j0 k a0 true) else (impl_nameOk.j0 k a0 (decide ((a0.size : Int) > 6)))
set_option maxHeartbeats 8000000 in
set_option maxRecDepth 100000 in
theorem impl_nameOk.calls (k : Nat) (a0 : ByteArray) (r : Bool) (w : World) (h : impl_nameOk.f k a0 = some r) :
  Calls Try.prog 73 #[.string a0] w fun e w' => e = .returned (.bool r) ∧ Drawn0 w w' := by
 have H : (if (a0.size : Int) < 1 then (impl_nameOk.j0 k a0 true) else (impl_nameOk.j0 k a0 (decide ((a0.size : Int) > 6)))) = some r := h; clear h; have HC2 := Aside0.mk H; clear H
 go_enter Try.func73, Try.ntmps73
 go_upto_region 1 with (fail)
 go_cut [13] (fun v13 wc => ∃ (kq : Nat) (a3 : Bool), v13 = .bool a3 ∧ Aside0 (impl_nameOk.j0 kq a0 a3 = some r) ∧ Aside0 (kq ≤ k) ∧ Drawn0 w wc)
 case first =>
  have H := HC2.out; clear HC2
  by_cases c3 : (a0.size : Int) < 1
  ·
   rw [if_pos c3] at H
   have a2 : decide ((a0.size : Int) < 1) = true := decide_eq_true c3; have a6 : decide (a0.size < 1) = true := decide_eq_true (by omega); clear c3
   (first | rw [a2] | (simp only [i64_w, i32_w]; rw [a2]) | skip)
   have H' := Aside0.mk H; clear H
   go_wp2
   go_meet
   case rel => exact ⟨_, (true), (by first | rfl | (simp; done) | (simp [*]; done)), H', ⟨by first | omega | exact Nat.le_refl _⟩, by repeat (first | exact yaa _ | apply yab)⟩
  ·
   rw [if_neg c3] at H
   have a2 : decide ((a0.size : Int) < 1) = false := decide_eq_false c3; have a6 : decide (a0.size < 1) = false := decide_eq_false (by omega); clear c3
   (first | rw [a2] | (simp only [i64_w, i32_w]; rw [a2]) | skip)
   have H' := Aside0.mk H; clear H
   go_wp2
   go_meet
   case rel => exact ⟨_, (decide ((a0.size : Int) > 6)), (by first | rfl | (simp; done) | (simp [*]; done)), H', ⟨by first | omega | exact Nat.le_refl _⟩, by repeat (first | exact yaa _ | apply yab)⟩
 case rest =>
  clear HC2; (try clear p2); (try clear c3); (try clear a2); (try clear a6); obtain ⟨kq, a3, rfl, HA, HJ1, ⟨mc1, rfl⟩⟩ := hcut
  cases kq with
  | zero => exact absurd HA.out (by simp [impl_nameOk.j0])
  | succ kj1 =>
   have H := HA.out; clear HA
   simp only [impl_nameOk.j0] at H
   by_cases c4 : a3 = true
   ·
    subst c4
    rw [if_pos rfl] at H
    obtain rfl := Option.some.inj H
    go_wp2
    go_ret
    exact ⟨by first | rfl | (simp; done) | (simp [*]; done), by repeat (first | exact yaa _ | apply yab)⟩
   ·
    replace c4 := Bool.eq_false_iff.mpr c4
    subst c4
    rw [if_neg (show ¬ (false = true) by decide)] at H
    have H' := Aside0.mk H; clear H
    go_wp2
    (try simp only [Act.put, List.setIfInBounds_toArray, List.set_cons_zero, List.set_cons_succ])
    go_loopg [16] kj1 (fun kq v16 w' => ∃ (a1 : Int), v16 = .int .i64 a1 ∧ Aside0 (impl_nameOk.l0 kq a0 (a0.size : Int) a1 = some r) ∧ Aside0 (kq ≤ kj1) ∧ Drawn0 w w')
    case atStart => exact ⟨(0), (by first | rfl | (simp; done) | (simp [*]; done)), H', ⟨Nat.le_refl _⟩, by repeat (first | exact yaa _ | apply yab)⟩
    case round =>
     clear H'; (try clear c1); (try clear p2); (try clear c3); (try clear a2); (try clear a6); (try clear c4); (try clear p2); obtain ⟨a1, rfl, HA, HK2, ⟨m2, rfl⟩⟩ := hrel
     cases gk with
     | zero => exact absurd HA.out (by simp [impl_nameOk.l0])
     | succ k2 =>
      have H := HA.out; clear HA
      simp only [impl_nameOk.l0] at H
      by_cases c5 : a1 < (a0.size : Int)
      ·
       rw [if_pos c5] at H
       have b5 : decide (a1 < (a0.size : Int)) = true := decide_eq_true c5; clear c5
       by_cases c6 : 0 ≤ a1
       ·
        rw [if_pos c6] at H
        replace c6 := decide_eq_true c6
        by_cases c7 : a1 < (a0.size : Int)
        ·
         rw [if_pos c7] at H
         replace c7 := decide_eq_true c7
         by_cases c9 : (bt a0 a1) ≥ 97
         ·
          rw [if_pos c9] at H
          have b6 : decide (97 ≤ (bt a0 a1)) = true := decide_eq_true c9; clear c9
          by_cases c12 : (bt a0 a1) ≥ 48
          ·
           rw [if_pos c12] at H
           have a7 : decide (48 ≤ (bt a0 a1)) = true := decide_eq_true c12; clear c12
           by_cases c14 : ((bt a0 a1) ≤ 122)
           ·
            rw [if_pos c14] at H
            have a8 : decide ((bt a0 a1) ≤ 122) = true := decide_eq_true c14; clear c14; have H' := Aside0.mk H; clear H
            have p8 : 0 ≤ (a1 : Int) := of_decide_eq_true (by first | (with_reducible assumption) | assumption)
            have q8 : a1 < (a0.size : Int) := of_decide_eq_true (by first | (with_reducible assumption) | assumption)
            have hx8 := bt_at a0 a1; replace p8 := eq_true p8; replace q8 := eq_true q8
            have p10 : 0 ≤ (a1 : Int) := of_decide_eq_true (by first | (with_reducible assumption) | assumption)
            have q10 : a1 < (a0.size : Int) := of_decide_eq_true (by first | (with_reducible assumption) | assumption)
            have a4 := bt_at a0 a1; replace p10 := eq_true p10; replace q10 := eq_true q10
            have p11 : 0 ≤ (a1 : Int) := of_decide_eq_true (by first | (with_reducible assumption) | assumption)
            have q11 : a1 < (a0.size : Int) := of_decide_eq_true (by first | (with_reducible assumption) | assumption)
            have a5 := bt_at a0 a1; replace p11 := eq_true p11; replace q11 := eq_true q11
            have p13 : 0 ≤ (a1 : Int) := of_decide_eq_true (by first | (with_reducible assumption) | assumption)
            have q13 : a1 < (a0.size : Int) := of_decide_eq_true (by first | (with_reducible assumption) | assumption)
            have a9 := bt_at a0 a1; replace p13 := eq_true p13; replace q13 := eq_true q13
            go_wp2
            go_roundg k2
            case measure => have := HJ1.out; have := HK2.out; omega
            case rel => exact ⟨(wrap64 (a1 + 1)), (by first | rfl | (simp; done) | (simp [*]; done)), H', ⟨by have := HJ1.out; have := HK2.out; omega⟩, by repeat (first | exact yaa _ | apply yab)⟩
           ·
            rw [if_neg c14] at H
            have a8 : decide ((bt a0 a1) ≤ 122) = false := decide_eq_false c14; clear c14
            by_cases c15 : ((bt a0 a1) ≤ 57)
            ·
             rw [if_pos c15] at H
             have b0 : decide ((bt a0 a1) ≤ 57) = true := decide_eq_true c15; clear c15; have H' := Aside0.mk H; clear H
             have p8 : 0 ≤ (a1 : Int) := of_decide_eq_true (by first | (with_reducible assumption) | assumption)
             have q8 : a1 < (a0.size : Int) := of_decide_eq_true (by first | (with_reducible assumption) | assumption)
             have hx8 := bt_at a0 a1; replace p8 := eq_true p8; replace q8 := eq_true q8
             have p10 : 0 ≤ (a1 : Int) := of_decide_eq_true (by first | (with_reducible assumption) | assumption)
             have q10 : a1 < (a0.size : Int) := of_decide_eq_true (by first | (with_reducible assumption) | assumption)
             have a4 := bt_at a0 a1; replace p10 := eq_true p10; replace q10 := eq_true q10
             have p11 : 0 ≤ (a1 : Int) := of_decide_eq_true (by first | (with_reducible assumption) | assumption)
             have q11 : a1 < (a0.size : Int) := of_decide_eq_true (by first | (with_reducible assumption) | assumption)
             have a5 := bt_at a0 a1; replace p11 := eq_true p11; replace q11 := eq_true q11
             have p13 : 0 ≤ (a1 : Int) := of_decide_eq_true (by first | (with_reducible assumption) | assumption)
             have q13 : a1 < (a0.size : Int) := of_decide_eq_true (by first | (with_reducible assumption) | assumption)
             have a9 := bt_at a0 a1; replace p13 := eq_true p13; replace q13 := eq_true q13
             go_wp2
             go_roundg k2
             case measure => have := HJ1.out; have := HK2.out; omega
             case rel => exact ⟨(wrap64 (a1 + 1)), (by first | rfl | (simp; done) | (simp [*]; done)), H', ⟨by have := HJ1.out; have := HK2.out; omega⟩, by repeat (first | exact yaa _ | apply yab)⟩
            ·
             rw [if_neg c15] at H
             have b0 : decide ((bt a0 a1) ≤ 57) = false := decide_eq_false c15; clear c15; obtain rfl := Option.some.inj H
             have p8 : 0 ≤ (a1 : Int) := of_decide_eq_true (by first | (with_reducible assumption) | assumption)
             have q8 : a1 < (a0.size : Int) := of_decide_eq_true (by first | (with_reducible assumption) | assumption)
             have hx8 := bt_at a0 a1; replace p8 := eq_true p8; replace q8 := eq_true q8
             have p10 : 0 ≤ (a1 : Int) := of_decide_eq_true (by first | (with_reducible assumption) | assumption)
             have q10 : a1 < (a0.size : Int) := of_decide_eq_true (by first | (with_reducible assumption) | assumption)
             have a4 := bt_at a0 a1; replace p10 := eq_true p10; replace q10 := eq_true q10
             have p11 : 0 ≤ (a1 : Int) := of_decide_eq_true (by first | (with_reducible assumption) | assumption)
             have q11 : a1 < (a0.size : Int) := of_decide_eq_true (by first | (with_reducible assumption) | assumption)
             have a5 := bt_at a0 a1; replace p11 := eq_true p11; replace q11 := eq_true q11
             have p13 : 0 ≤ (a1 : Int) := of_decide_eq_true (by first | (with_reducible assumption) | assumption)
             have q13 : a1 < (a0.size : Int) := of_decide_eq_true (by first | (with_reducible assumption) | assumption)
             have a9 := bt_at a0 a1; replace p13 := eq_true p13; replace q13 := eq_true q13
             go_wp2
             go_ret
             exact ⟨by first | rfl | (simp; done) | (simp [*]; done), by repeat (first | exact yaa _ | apply yab)⟩
          ·
           rw [if_neg c12] at H
           have a7 : decide (48 ≤ (bt a0 a1)) = false := decide_eq_false c12; clear c12
           by_cases c16 : ((bt a0 a1) ≤ 122)
           ·
            rw [if_pos c16] at H
            have b1 : decide ((bt a0 a1) ≤ 122) = true := decide_eq_true c16; clear c16; have H' := Aside0.mk H; clear H
            have p8 : 0 ≤ (a1 : Int) := of_decide_eq_true (by first | (with_reducible assumption) | assumption)
            have q8 : a1 < (a0.size : Int) := of_decide_eq_true (by first | (with_reducible assumption) | assumption)
            have hx8 := bt_at a0 a1; replace p8 := eq_true p8; replace q8 := eq_true q8
            have p10 : 0 ≤ (a1 : Int) := of_decide_eq_true (by first | (with_reducible assumption) | assumption)
            have q10 : a1 < (a0.size : Int) := of_decide_eq_true (by first | (with_reducible assumption) | assumption)
            have a4 := bt_at a0 a1; replace p10 := eq_true p10; replace q10 := eq_true q10
            have p11 : 0 ≤ (a1 : Int) := of_decide_eq_true (by first | (with_reducible assumption) | assumption)
            have q11 : a1 < (a0.size : Int) := of_decide_eq_true (by first | (with_reducible assumption) | assumption)
            have a5 := bt_at a0 a1; replace p11 := eq_true p11; replace q11 := eq_true q11
            go_wp2
            go_roundg k2
            case measure => have := HJ1.out; have := HK2.out; omega
            case rel => exact ⟨(wrap64 (a1 + 1)), (by first | rfl | (simp; done) | (simp [*]; done)), H', ⟨by have := HJ1.out; have := HK2.out; omega⟩, by repeat (first | exact yaa _ | apply yab)⟩
           ·
            rw [if_neg c16] at H
            have b1 : decide ((bt a0 a1) ≤ 122) = false := decide_eq_false c16; clear c16; obtain rfl := Option.some.inj H
            have p8 : 0 ≤ (a1 : Int) := of_decide_eq_true (by first | (with_reducible assumption) | assumption)
            have q8 : a1 < (a0.size : Int) := of_decide_eq_true (by first | (with_reducible assumption) | assumption)
            have hx8 := bt_at a0 a1; replace p8 := eq_true p8; replace q8 := eq_true q8
            have p10 : 0 ≤ (a1 : Int) := of_decide_eq_true (by first | (with_reducible assumption) | assumption)
            have q10 : a1 < (a0.size : Int) := of_decide_eq_true (by first | (with_reducible assumption) | assumption)
            have a4 := bt_at a0 a1; replace p10 := eq_true p10; replace q10 := eq_true q10
            have p11 : 0 ≤ (a1 : Int) := of_decide_eq_true (by first | (with_reducible assumption) | assumption)
            have q11 : a1 < (a0.size : Int) := of_decide_eq_true (by first | (with_reducible assumption) | assumption)
            have a5 := bt_at a0 a1; replace p11 := eq_true p11; replace q11 := eq_true q11
            go_wp2
            go_ret
            exact ⟨by first | rfl | (simp; done) | (simp [*]; done), by repeat (first | exact yaa _ | apply yab)⟩
         ·
          rw [if_neg c9] at H
          have b6 : decide (97 ≤ (bt a0 a1)) = false := decide_eq_false c9; clear c9
          by_cases c18 : (bt a0 a1) ≥ 48
          ·
           rw [if_pos c18] at H
           have b2 : decide (48 ≤ (bt a0 a1)) = true := decide_eq_true c18; clear c18
           by_cases c20 : ((bt a0 a1) ≤ 57)
           ·
            rw [if_pos c20] at H
            have b3 : decide ((bt a0 a1) ≤ 57) = true := decide_eq_true c20; clear c20; have H' := Aside0.mk H; clear H
            have p8 : 0 ≤ (a1 : Int) := of_decide_eq_true (by first | (with_reducible assumption) | assumption)
            have q8 : a1 < (a0.size : Int) := of_decide_eq_true (by first | (with_reducible assumption) | assumption)
            have hx8 := bt_at a0 a1; replace p8 := eq_true p8; replace q8 := eq_true q8
            have p17 : 0 ≤ (a1 : Int) := of_decide_eq_true (by first | (with_reducible assumption) | assumption)
            have q17 : a1 < (a0.size : Int) := of_decide_eq_true (by first | (with_reducible assumption) | assumption)
            have b4 := bt_at a0 a1; replace p17 := eq_true p17; replace q17 := eq_true q17
            have p19 : 0 ≤ (a1 : Int) := of_decide_eq_true (by first | (with_reducible assumption) | assumption)
            have q19 : a1 < (a0.size : Int) := of_decide_eq_true (by first | (with_reducible assumption) | assumption)
            have b7 := bt_at a0 a1; replace p19 := eq_true p19; replace q19 := eq_true q19
            go_wp2
            go_roundg k2
            case measure => have := HJ1.out; have := HK2.out; omega
            case rel => exact ⟨(wrap64 (a1 + 1)), (by first | rfl | (simp; done) | (simp [*]; done)), H', ⟨by have := HJ1.out; have := HK2.out; omega⟩, by repeat (first | exact yaa _ | apply yab)⟩
           ·
            rw [if_neg c20] at H
            have b3 : decide ((bt a0 a1) ≤ 57) = false := decide_eq_false c20; clear c20; obtain rfl := Option.some.inj H
            have p8 : 0 ≤ (a1 : Int) := of_decide_eq_true (by first | (with_reducible assumption) | assumption)
            have q8 : a1 < (a0.size : Int) := of_decide_eq_true (by first | (with_reducible assumption) | assumption)
            have hx8 := bt_at a0 a1; replace p8 := eq_true p8; replace q8 := eq_true q8
            have p17 : 0 ≤ (a1 : Int) := of_decide_eq_true (by first | (with_reducible assumption) | assumption)
            have q17 : a1 < (a0.size : Int) := of_decide_eq_true (by first | (with_reducible assumption) | assumption)
            have b4 := bt_at a0 a1; replace p17 := eq_true p17; replace q17 := eq_true q17
            have p19 : 0 ≤ (a1 : Int) := of_decide_eq_true (by first | (with_reducible assumption) | assumption)
            have q19 : a1 < (a0.size : Int) := of_decide_eq_true (by first | (with_reducible assumption) | assumption)
            have b7 := bt_at a0 a1; replace p19 := eq_true p19; replace q19 := eq_true q19
            go_wp2
            go_ret
            exact ⟨by first | rfl | (simp; done) | (simp [*]; done), by repeat (first | exact yaa _ | apply yab)⟩
          ·
           rw [if_neg c18] at H
           have b2 : decide (48 ≤ (bt a0 a1)) = false := decide_eq_false c18; clear c18; obtain rfl := Option.some.inj H
           have p8 : 0 ≤ (a1 : Int) := of_decide_eq_true (by first | (with_reducible assumption) | assumption)
           have q8 : a1 < (a0.size : Int) := of_decide_eq_true (by first | (with_reducible assumption) | assumption)
           have hx8 := bt_at a0 a1; replace p8 := eq_true p8; replace q8 := eq_true q8
           have p17 : 0 ≤ (a1 : Int) := of_decide_eq_true (by first | (with_reducible assumption) | assumption)
           have q17 : a1 < (a0.size : Int) := of_decide_eq_true (by first | (with_reducible assumption) | assumption)
           have b4 := bt_at a0 a1; replace p17 := eq_true p17; replace q17 := eq_true q17
           go_wp2
           go_ret
           exact ⟨by first | rfl | (simp; done) | (simp [*]; done), by repeat (first | exact yaa _ | apply yab)⟩
        ·
         rw [if_neg c7] at H
         exact absurd H (by simp)
       ·
        rw [if_neg c6] at H
        exact absurd H (by simp)
      ·
       rw [if_neg c5] at H
       have b5 : decide (a1 < (a0.size : Int)) = false := decide_eq_false c5; clear c5; obtain rfl := Option.some.inj H
       go_wp2
       go_ret
       exact ⟨by first | rfl | (simp; done) | (simp [*]; done), by repeat (first | exact yaa _ | apply yab)⟩
end
section
open Go.Proofs.YtgpkkkmapgnhkaaW.PrintWords.Aside0 renaming mk → yaa
open Go.Proofs.YtgpkkkmapgnhkaaW.PrintWords renaming pw_below_drewN → yab, below_alloc → yac, below_drew1 → yad, below_set → yaf, blk_below → yag
open Go.Proofs.Ytgpkkkmapgnhkaa.X renaming rd_T124 → yae

def impl_jobsOk.l0 : Nat → Int → List (S124) → Int → Int → Int → Int → Int → Int → List (S124) → List (S156) → List ByteArray → List (S158) → Option (Bool)
 | 0, _, _, _, _, _, _, _, _, _, _, _, _ => none
 | k + 1, x5, x15, x16, x17, x103000, x103001, x103002, x103003, x103004, x103005, x103006, x103007 => if x17 < x16 then (if 0 ≤ x17 then (if x17 < (x15.length : Int) then ((impl_within.f ((rd_T124 x15 x17).f0) (wrap64 (x5 + 1)) (wrap64 (x103003 - 1))).bind fun t105 => (if t105 = true then ((impl_nameOk.f k ((rd_T124 x15 x17).f1)).bind fun t106 => (if t106 = true then ((impl_opsOk.f k ((rd_T124 x15 x17).f2)).bind fun t107 => (if t107 = true then ((impl_within.f ((rd_T124 x15 x17).f3) 0 x103000).bind fun t108 => (if t108 = true then (impl_jobsOk.l0 k ((rd_T124 x15 x17).f0) x15 x16 (wrap64 (x17 + 1)) x103000 x103001 x103002 x103003 x103004 x103005 x103006 x103007) else (some false))) else (some false))) else (some false))) else (some false))) else (none)) else (none)) else (some true)
def impl_jobsOk.f (k : Nat) (l0_0 : List Int) (a0_1 : Int) (a0_2 : Int) (a0_3 : Int) (a0_4 : Int) (a0_5 : Int) (a0_6 : Int) (a1_0 : Int) (a1_1 : Int) (a1_2 : Int) (a1_3 : Int) (l1_4 : List (S124)) (l1_5 : List (S156)) (l1_6 : List ByteArray) (l1_7 : List (S158)) : Option (Bool) := if (l1_4.length : Int) > a0_3 then (some false) else (impl_jobsOk.l0 k (-1) l1_4 (l1_4.length : Int) 0 a1_0 a1_1 a1_2 a1_3 l1_4 l1_5 l1_6 l1_7)
set_option maxHeartbeats 8000000 in
set_option maxRecDepth 100000 in
theorem impl_jobsOk.calls (k : Nat) (A0_0 : Option Addr) (c0_0 : Nat) (l0_0 : List Int) (a0_1 : Int) (a0_2 : Int) (a0_3 : Int) (a0_4 : Int) (a0_5 : Int) (a0_6 : Int) (a1_0 : Int) (a1_1 : Int) (a1_2 : Int) (a1_3 : Int) (A1_4 : Option Addr) (c1_4 : Nat) (l1_4 : List (S124)) (A1_5 : Option Addr) (c1_5 : Nat) (l1_5 : List (S156)) (A1_6 : Option Addr) (c1_6 : Nat) (l1_6 : List ByteArray) (A1_7 : Option Addr) (c1_7 : Nat) (l1_7 : List (S158)) (r : Bool) (w : World) (hr0_0 : Kd.C (Kd.int .u8) w A0_0 l0_0.length l0_0) (hc0_0 : l0_0.length ≤ c0_0) (hr1_4 : Kd.C k124 w A1_4 l1_4.length l1_4) (hc1_4 : l1_4.length ≤ c1_4) (hr1_5 : Kd.C k156 w A1_5 l1_5.length l1_5) (hc1_5 : l1_5.length ≤ c1_5) (hr1_6 : Kd.C Kd.string w A1_6 l1_6.length l1_6) (hc1_6 : l1_6.length ≤ c1_6) (hr1_7 : Kd.C k158 w A1_7 l1_7.length l1_7) (hc1_7 : l1_7.length ≤ c1_7) (h : impl_jobsOk.f k l0_0 a0_1 a0_2 a0_3 a0_4 a0_5 a0_6 a1_0 a1_1 a1_2 a1_3 l1_4 l1_5 l1_6 l1_7 = some r) :
  Calls Try.prog 88 #[.agg #[.slice A0_0 l0_0.length c0_0, .int .i64 a0_1, .int .i64 a0_2, .int .i64 a0_3, .int .i64 a0_4, .int .i64 a0_5, .int .i64 a0_6], .agg #[.int .i64 a1_0, .int .i64 a1_1, .int .i64 a1_2, .int .i64 a1_3, .slice A1_4 l1_4.length c1_4, .slice A1_5 l1_5.length c1_5, .slice A1_6 l1_6.length c1_6, .slice A1_7 l1_7.length c1_7]] w fun e w' => e = .returned (.bool r) ∧ Below w.heap.size w w' := by
 have hu24 := Try.underlying24; have hu63 := Try.underlying63; have hu124 := Try.underlying124; have HR0_0 := yaa hr0_0; have HC0_0 := yaa hc0_0; clear hr0_0 hc0_0; have HR1_4 := yaa hr1_4; have HC1_4 := yaa hc1_4; clear hr1_4 hc1_4; have HR1_5 := yaa hr1_5; have HC1_5 := yaa hc1_5; clear hr1_5 hc1_5; have HR1_6 := yaa hr1_6; have HC1_6 := yaa hc1_6; clear hr1_6 hc1_6; have HR1_7 := yaa hr1_7; have HC1_7 := yaa hc1_7; clear hr1_7 hc1_7; have HB := yaa (Below.refl w.heap.size w); have H : (if (l1_4.length : Int) > a0_3 then (some false) else (impl_jobsOk.l0 k (-1) l1_4 (l1_4.length : Int) 0 a1_0 a1_1 a1_2 a1_3 l1_4 l1_5 l1_6 l1_7)) = some r := h; clear h
 by_cases c3 : (l1_4.length : Int) > a0_3
 ·
  rw [if_pos c3] at H
  have k8 : decide (a0_3 < (l1_4.length : Int)) = true := decide_eq_true c3; clear c3; obtain rfl := Option.some.inj H
  go_enter Try.func88, Try.ntmps88
  go_wp2_with (first | ((with_reducible refine gd_ 2 rfl ?_); refine bx_ 2 rfl #[.slice A0_0 l0_0.length c0_0, .int .i64 a0_1, .int .i64 a0_2, .int .i64 a0_3, .int .i64 a0_4, .int .i64 a0_5, .int .i64 a0_6] 24 ?_; intro c9 hg w4 hbox hb; have b4 := yaa (hbox); have e1 := yaa ((by rw [hg]; exact (below_size (upH HB.out)) : w.heap.size ≤ c9)); replace HB := yaa (below_step (upH HB.out) hb); have k9 := e1; clear hb hbox hg) | ((with_reducible refine gd_ 3 rfl ?_); refine bx_ 3 rfl #[.int .i64 a1_0, .int .i64 a1_1, .int .i64 a1_2, .int .i64 a1_3, .slice A1_4 l1_4.length c1_4, .slice A1_5 l1_5.length c1_5, .slice A1_6 l1_6.length c1_6, .slice A1_7 l1_7.length c1_7] 63 ?_; intro d0 hg w5 hbox hb; have b1 := yaa (hbox); have e2 := yaa ((by rw [hg]; exact (below_size (by repeat (with_reducible first | exact HB.out | apply yac | apply yab | apply yad | refine yaf ?_ (Aside0.out ‹_›)))) : w.heap.size ≤ d0)); replace HB := yaa (below_step (by repeat (with_reducible first | exact HB.out | apply yac | apply yab | apply yad | refine yaf ?_ (Aside0.out ‹_›))) hb); have l1 := e2; have b9 := yaa ((by rw [hg]; exact Nat.ne_of_lt (blk_lt (upB b4.out)) : c9 ≠ d0)); replace b4 := yaa (yag (upB b4.out) hb); have c7 := yaa b9.out.symm; clear hb hbox hg; have H7 := c7.out; have H8 := b9.out; obtain ⟨h7, h8, h9, i0, i1, i2, i3, i4⟩ := cc8_ b1.out; obtain ⟨i5, i6, i7, i8, i9, j0, j1, j2⟩ := cf8_ b1.out; obtain ⟨j3, j4, j5, j6, j7, j8, j9⟩ := cc7_ b4.out; obtain ⟨k0, k2, k3, k4, k5, k6⟩ := cf6_ b4.out; have k7 := blk_frozen b4.out 6))
  go_ret
  exact ⟨by first | rfl | (simp [*, errW_none, errW_some] <;> rfl), by repeat (with_reducible first | exact HB.out | apply yac | apply yab | apply yad | refine yaf ?_ (Aside0.out ‹_›))⟩
 ·
  rw [if_neg c3] at H
  have k8 : decide (a0_3 < (l1_4.length : Int)) = false := decide_eq_false c3; clear c3; have H' := yaa H; clear H
  go_enter Try.func88, Try.ntmps88
  go_wp2_with (first | ((with_reducible refine gd_ 2 rfl ?_); refine bx_ 2 rfl #[.slice A0_0 l0_0.length c0_0, .int .i64 a0_1, .int .i64 a0_2, .int .i64 a0_3, .int .i64 a0_4, .int .i64 a0_5, .int .i64 a0_6] 24 ?_; intro c9 hg w9 hbox hb; have b4 := yaa (hbox); have e1 := yaa ((by rw [hg]; exact (below_size (upH HB.out)) : w.heap.size ≤ c9)); replace HB := yaa (below_step (upH HB.out) hb); have k9 := e1; clear hb hbox hg) | ((with_reducible refine gd_ 3 rfl ?_); refine bx_ 3 rfl #[.int .i64 a1_0, .int .i64 a1_1, .int .i64 a1_2, .int .i64 a1_3, .slice A1_4 l1_4.length c1_4, .slice A1_5 l1_5.length c1_5, .slice A1_6 l1_6.length c1_6, .slice A1_7 l1_7.length c1_7] 63 ?_; intro d0 hg w10 hbox hb; have b1 := yaa (hbox); have e2 := yaa ((by rw [hg]; exact (below_size (by repeat (with_reducible first | exact HB.out | apply yac | apply yab | apply yad | refine yaf ?_ (Aside0.out ‹_›)))) : w.heap.size ≤ d0)); replace HB := yaa (below_step (by repeat (with_reducible first | exact HB.out | apply yac | apply yab | apply yad | refine yaf ?_ (Aside0.out ‹_›))) hb); have l1 := e2; have b9 := yaa ((by rw [hg]; exact Nat.ne_of_lt (blk_lt (upB b4.out)) : c9 ≠ d0)); replace b4 := yaa (yag (upB b4.out) hb); have c7 := yaa b9.out.symm; clear hb hbox hg; have E5 := c7.out; have E6 := b9.out; obtain ⟨e3, e4, e5, e6, e7, e8, e9, f4⟩ := cc8_ b1.out; obtain ⟨f5, f6, f7, f8, f9, g0, g1, g2⟩ := cf8_ b1.out; obtain ⟨g3, g4, g5, g6, g7, g8, g9⟩ := cc7_ b4.out; obtain ⟨h0, h1, h2, h3, h4, h5⟩ := cf6_ b4.out; have h6 := blk_frozen b4.out 6))
  (try simp only [Act.put, List.setIfInBounds_toArray, List.set_cons_zero, List.set_cons_succ])
  go_loopg [5, 17] k (fun kq v5 v17 w' => ∃ (d4 : Int) (b0 : Int), v5 = .int .i64 d4 ∧ v17 = .int .i64 b0 ∧ Aside0 (impl_jobsOk.l0 kq d4 l1_4 (l1_4.length : Int) b0 a1_0 a1_1 a1_2 a1_3 l1_4 l1_5 l1_6 l1_7 = some r) ∧ Aside0 (kq ≤ k) ∧ Aside0 (w'.heap[c9]? = some (.cells #[(.slice A0_0 l0_0.length c0_0), .int .i64 a0_1, .int .i64 a0_2, .int .i64 a0_3, .int .i64 a0_4, .int .i64 a0_5, .int .i64 a0_6] 24 (0, 0))) ∧ Aside0 (w'.heap[d0]? = some (.cells #[.int .i64 a1_0, .int .i64 a1_1, .int .i64 a1_2, .int .i64 a1_3, (.slice A1_4 l1_4.length c1_4), (.slice A1_5 l1_5.length c1_5), (.slice A1_6 l1_6.length c1_6), (.slice A1_7 l1_7.length c1_7)] 63 (0, 0))) ∧ Aside0 (Below w.heap.size w w'))
  case atStart => exact ⟨((-1)), (0), (by first | rfl | (simp; done) | (simp [*]; done)), (by first | rfl | (simp; done) | (simp [*]; done)), H', ⟨Nat.le_refl _⟩, ⟨by exact upB b4.out⟩, ⟨by exact upB b1.out⟩, ⟨by repeat (with_reducible first | exact HB.out | apply yac | apply yab | apply yad | refine yaf ?_ (Aside0.out ‹_›))⟩⟩
  case round =>
   clear H'; (try clear c1); (try clear p2); (try clear c3); (try clear k8); (try clear c6); (try clear c8); (try clear c11); (try clear e3); (try clear e4); (try clear e5); (try clear e6); (try clear e7); (try clear e8); (try clear e9); (try clear f4); (try clear g3); (try clear g4); (try clear g5); (try clear g6); (try clear g7); (try clear g8); (try clear g9); (try clear h7); (try clear h8); (try clear h9); (try clear i0); (try clear i1); (try clear i2); (try clear i3); (try clear i4); (try clear j3); (try clear j4); (try clear j5); (try clear j6); (try clear j7); (try clear j8); (try clear j9); (try clear f5); (try clear f6); (try clear f7); (try clear f8); (try clear f9); (try clear g0); (try clear g1); (try clear g2); (try clear h0); (try clear h1); (try clear h2); (try clear h3); (try clear h4); (try clear h5); (try clear h6); (try clear i5); (try clear i6); (try clear i7); (try clear i8); (try clear i9); (try clear j0); (try clear j1); (try clear j2); (try clear k0); (try clear k2); (try clear k3); (try clear k4); (try clear k5); (try clear k6); (try clear k7); obtain ⟨d4, b0, rfl, rfl, HA, HK1, b4, b1, HB⟩ := hrel
   cases gk with
   | zero => exact absurd HA.out (by simp [impl_jobsOk.l0])
   | succ k1 =>
    have H := HA.out; clear HA
    simp only [impl_jobsOk.l0] at H
    by_cases c14 : b0 < (l1_4.length : Int)
    ·
     rw [if_pos c14] at H
     have l2 : decide (b0 < (l1_4.length : Int)) = true := decide_eq_true c14; clear c14
     by_cases c15 : 0 ≤ b0
     ·
      rw [if_pos c15] at H
      replace c15 := decide_eq_true c15
      by_cases c16 : b0 < (l1_4.length : Int)
      ·
       rw [if_pos c16] at H
       replace c16 := decide_eq_true c16; obtain ⟨E1, A17, H⟩ := bindA H; (try dsimp only at H)
       by_cases c18 : E1 = true
       ·
        subst c18
        rw [if_pos rfl] at H
        obtain ⟨E2, A19, H⟩ := bindA H; (try dsimp only at H)
        by_cases c20 : E2 = true
        ·
         subst c20
         rw [if_pos rfl] at H
         obtain ⟨E3, A21, H⟩ := bindA H; (try dsimp only at H)
         by_cases c22 : E3 = true
         ·
          subst c22
          rw [if_pos rfl] at H
          obtain ⟨E4, A23, H⟩ := bindA H; (try dsimp only at H)
          by_cases c24 : E4 = true
          ·
           subst c24
           rw [if_pos rfl] at H
           have H' := yaa H; clear H
           have p103 : 0 ≤ (b0 : Int) := of_decide_eq_true (by first | (with_reducible assumption) | assumption)
           have q103 : b0 < (l1_4.length : Int) := of_decide_eq_true (by first | (with_reducible assumption) | assumption)
           obtain ⟨ad103, d1, d2, d5, b5, b6, b7, b8, hl103_2, hi103_2⟩ := at_T124 HR1_4.out b0 p103 q103
           cases d5
           replace b5 := (HB.out.cell (World.block_lt_of_cell? w _ b5)).trans b5; replace b6 := (HB.out.cell (World.block_lt_of_cell? w _ b6)).trans b6; replace b7 := (HB.out.cell (World.block_lt_of_cell? w _ b7)).trans b7; replace b8 := (HB.out.cell (World.block_lt_of_cell? w _ b8)).trans b8; have HR103_2 := yaa hi103_2; have HC103_2 := yaa hl103_2; clear hi103_2 hl103_2; replace p103 := eq_true p103; replace q103 := eq_true q103
           go_wp2_with (first | ((with_reducible refine gd_ 7 rfl ?_); refine bx_ 7 rfl #[.int .i64 0, .string (⟨#[]⟩ : ByteArray), .slice none 0 0, .int .i64 0] 124 ?_; intro c5 hg w25 hbox hb; have c0 := yaa (hbox); have d3 := yaa ((by rw [hg]; exact (below_size (by repeat (with_reducible first | exact HB.out | apply yac | apply yab | apply yad | refine yaf ?_ (Aside0.out ‹_›)))) : w.heap.size ≤ c5)); replace HB := yaa (below_step (by repeat (with_reducible first | exact HB.out | apply yac | apply yab | apply yad | refine yaf ?_ (Aside0.out ‹_›))) hb); have d7 := d3; have b2 := yaa ((by rw [hg]; exact Nat.ne_of_lt (blk_lt (upB b4.out)) : c9 ≠ c5)); replace b4 := yaa (yag (upB b4.out) hb); have c2 := yaa b2.out.symm; have b3 := yaa ((by rw [hg]; exact Nat.ne_of_lt (blk_lt (upB b1.out)) : d0 ≠ c5)); replace b1 := yaa (yag (upB b1.out) hb); have c4 := yaa b3.out.symm; clear hb hbox hg; have E7 := c2.out; have E8 := b2.out; have E9 := c4.out; have F0 := b3.out; obtain ⟨l3, l4, l5, l6⟩ := cc4_ c0.out; obtain ⟨l7, l8, l9, m0⟩ := cf4_ c0.out; have F1 := c7.out; have F2 := b9.out; obtain ⟨m1, m2, m3, m4, m5, m6, m7, m8⟩ := cc8_ b1.out; obtain ⟨m9, n0, n1, n2, n3, n4, n5⟩ := cf7_ b1.out; have n6 := blk_frozen b1.out 7) | ((with_reducible refine gc_ 62 rfl ?_); refine gl_ (some 28) rfl Try.func62 #[.int .i64 ((yae l1_4 b0).f0), .int .i64 (wrap64 (d4 + 1)), .int .i64 (wrap64 (a1_3 - 1))] ?_; (with_reducible refine (impl_within.calls ((yae l1_4 b0).f0) (wrap64 (d4 + 1)) (wrap64 (a1_3 - 1)) true _ A17.out).mono ?_); rintro e w' ⟨rfl, ⟨nd, rfl⟩⟩; refine ⟨_, rfl, ?_⟩) | (go_at_call 73; (with_reducible refine (impl_nameOk.calls k1 ((yae l1_4 b0).f1) true _ A19.out).mono ?_); rintro e w' ⟨rfl, ⟨nd, rfl⟩⟩) | (go_at_call 72; (with_reducible refine (impl_opsOk.calls k1 _ _ ((yae l1_4 b0).f2) true _ ?side1 ?side2 A21.out).mono ?_); (case side1 => exact Kd.C_below HR103_2.out (by repeat (with_reducible first | exact HB.out | apply yac | apply yab | apply yad | refine yaf ?_ (Aside0.out ‹_›)))); (case side2 => exact HC103_2.out); rintro e w31 ⟨rfl, hb⟩; replace b4 := yaa (yag (g := c9) (o := .cells #[.slice A0_0 l0_0.length c0_0, .int .i64 a0_1, .int .i64 a0_2, .int .i64 a0_3, .int .i64 a0_4, .int .i64 a0_5, .int .i64 a0_6] 24 (0, 0)) (by repeat (with_reducible first | exact b4.out | refine oneB ?_ | refine blk_far ?_ b2.out _)) hb); replace b1 := yaa (yag (g := d0) (o := .cells #[.int .i64 a1_0, .int .i64 a1_1, .int .i64 a1_2, .int .i64 a1_3, .slice (some ad103) l1_4.length c1_4, .slice A1_5 l1_5.length c1_5, .slice A1_6 l1_6.length c1_6, .slice A1_7 l1_7.length c1_7] 63 (0, 0)) (by repeat (with_reducible first | exact b1.out | refine oneB ?_ | refine blk_far ?_ b3.out _)) hb); replace c0 := yaa (yag (g := c5) (o := .cells #[.int .i64 ((yae l1_4 b0).f0), .string ((yae l1_4 b0).f1), .slice d1 ((yae l1_4 b0).f2).length d2, .int .i64 ((yae l1_4 b0).f3)] 124 (0, 0)) (by (repeat refine oneB ?_); refine blk_put (cs := #[.int .i64 ((yae l1_4 b0).f0), .string ((yae l1_4 b0).f1), .slice d1 ((yae l1_4 b0).f2).length d2, .int .i64 0]) ?_ 3 _ rfl; refine blk_put (cs := #[.int .i64 ((yae l1_4 b0).f0), .string ((yae l1_4 b0).f1), .slice none 0 0, .int .i64 0]) ?_ 2 _ rfl; refine blk_put (cs := #[.int .i64 ((yae l1_4 b0).f0), .string (⟨#[]⟩ : ByteArray), .slice none 0 0, .int .i64 0]) ?_ 1 _ rfl; refine blk_put (cs := #[.int .i64 0, .string (⟨#[]⟩ : ByteArray), .slice none 0 0, .int .i64 0]) ?_ 0 _ rfl; exact upB c0.out) hb); replace HB := yaa (below_step (by repeat (with_reducible first | exact HB.out | apply yac | apply yab | apply yad | refine yaf ?_ (Aside0.out ‹_›))) hb); (try clear hb); obtain ⟨n7, n8, n9, o0⟩ := cc4_ c0.out; obtain ⟨o1, o2, o3, o4⟩ := cf4_ c0.out; obtain ⟨o5, o6, o7, o8, o9, p0, p1, p3⟩ := cc8_ b1.out; obtain ⟨p4, p5, p6, p7, p8, p9, q0⟩ := cf7_ b1.out; have q1 := blk_frozen b1.out 7) | (go_at_call 62; (with_reducible refine (impl_within.calls ((yae l1_4 b0).f3) 0 a1_0 true _ A23.out).mono ?_); rintro e w' ⟨rfl, ⟨nd, rfl⟩⟩))
           go_roundg k1
           case measure => have := HK1.out; omega
           case rel => exact ⟨((yae l1_4 b0).f0), (wrap64 (b0 + 1)), (by first | rfl | (simp; done) | (simp [*]; done)), (by first | rfl | (simp; done) | (simp [*]; done)), H', ⟨by have := HK1.out; omega⟩, ⟨by exact upB b4.out⟩, ⟨by exact upB b1.out⟩, ⟨by repeat (with_reducible first | exact HB.out | apply yac | apply yab | apply yad | refine yaf ?_ (Aside0.out ‹_›))⟩⟩
          ·
           replace c24 := Bool.eq_false_iff.mpr c24
           subst c24
           rw [if_neg (show ¬ (false = true) by decide)] at H
           obtain rfl := Option.some.inj H
           have p103 : 0 ≤ (b0 : Int) := of_decide_eq_true (by first | (with_reducible assumption) | assumption)
           have q103 : b0 < (l1_4.length : Int) := of_decide_eq_true (by first | (with_reducible assumption) | assumption)
           obtain ⟨ad103, d1, d2, d5, b5, b6, b7, b8, hl103_2, hi103_2⟩ := at_T124 HR1_4.out b0 p103 q103
           cases d5
           replace b5 := (HB.out.cell (World.block_lt_of_cell? w _ b5)).trans b5; replace b6 := (HB.out.cell (World.block_lt_of_cell? w _ b6)).trans b6; replace b7 := (HB.out.cell (World.block_lt_of_cell? w _ b7)).trans b7; replace b8 := (HB.out.cell (World.block_lt_of_cell? w _ b8)).trans b8; have HR103_2 := yaa hi103_2; have HC103_2 := yaa hl103_2; clear hi103_2 hl103_2; replace p103 := eq_true p103; replace q103 := eq_true q103
           go_wp2_with (first | ((with_reducible refine gd_ 7 rfl ?_); refine bx_ 7 rfl #[.int .i64 0, .string (⟨#[]⟩ : ByteArray), .slice none 0 0, .int .i64 0] 124 ?_; intro c5 hg w34 hbox hb; have c0 := yaa (hbox); have d3 := yaa ((by rw [hg]; exact (below_size (by repeat (with_reducible first | exact HB.out | apply yac | apply yab | apply yad | refine yaf ?_ (Aside0.out ‹_›)))) : w.heap.size ≤ c5)); replace HB := yaa (below_step (by repeat (with_reducible first | exact HB.out | apply yac | apply yab | apply yad | refine yaf ?_ (Aside0.out ‹_›))) hb); have d7 := d3; have b2 := yaa ((by rw [hg]; exact Nat.ne_of_lt (blk_lt (upB b4.out)) : c9 ≠ c5)); replace b4 := yaa (yag (upB b4.out) hb); have c2 := yaa b2.out.symm; have b3 := yaa ((by rw [hg]; exact Nat.ne_of_lt (blk_lt (upB b1.out)) : d0 ≠ c5)); replace b1 := yaa (yag (upB b1.out) hb); have c4 := yaa b3.out.symm; clear hb hbox hg; have F3 := c2.out; have F4 := b2.out; have F5 := c4.out; have F6 := b3.out; obtain ⟨q2, q3, q4, q5⟩ := cc4_ c0.out; obtain ⟨q6, q7, q8, q9⟩ := cf4_ c0.out; have F7 := c7.out; have F8 := b9.out; obtain ⟨r0, r1, r2, r3, r4, r5, r6, r7⟩ := cc8_ b1.out; obtain ⟨r8, r9, s0, s1, s2, s3, s4⟩ := cf7_ b1.out; have s5 := blk_frozen b1.out 7) | ((with_reducible refine gc_ 62 rfl ?_); refine gl_ (some 28) rfl Try.func62 #[.int .i64 ((yae l1_4 b0).f0), .int .i64 (wrap64 (d4 + 1)), .int .i64 (wrap64 (a1_3 - 1))] ?_; (with_reducible refine (impl_within.calls ((yae l1_4 b0).f0) (wrap64 (d4 + 1)) (wrap64 (a1_3 - 1)) true _ A17.out).mono ?_); rintro e w' ⟨rfl, ⟨nd, rfl⟩⟩; refine ⟨_, rfl, ?_⟩) | (go_at_call 73; (with_reducible refine (impl_nameOk.calls k1 ((yae l1_4 b0).f1) true _ A19.out).mono ?_); rintro e w' ⟨rfl, ⟨nd, rfl⟩⟩) | (go_at_call 72; (with_reducible refine (impl_opsOk.calls k1 _ _ ((yae l1_4 b0).f2) true _ ?side1 ?side2 A21.out).mono ?_); (case side1 => exact Kd.C_below HR103_2.out (by repeat (with_reducible first | exact HB.out | apply yac | apply yab | apply yad | refine yaf ?_ (Aside0.out ‹_›)))); (case side2 => exact HC103_2.out); rintro e w40 ⟨rfl, hb⟩; replace b4 := yaa (yag (g := c9) (o := .cells #[.slice A0_0 l0_0.length c0_0, .int .i64 a0_1, .int .i64 a0_2, .int .i64 a0_3, .int .i64 a0_4, .int .i64 a0_5, .int .i64 a0_6] 24 (0, 0)) (by repeat (with_reducible first | exact b4.out | refine oneB ?_ | refine blk_far ?_ b2.out _)) hb); replace b1 := yaa (yag (g := d0) (o := .cells #[.int .i64 a1_0, .int .i64 a1_1, .int .i64 a1_2, .int .i64 a1_3, .slice (some ad103) l1_4.length c1_4, .slice A1_5 l1_5.length c1_5, .slice A1_6 l1_6.length c1_6, .slice A1_7 l1_7.length c1_7] 63 (0, 0)) (by repeat (with_reducible first | exact b1.out | refine oneB ?_ | refine blk_far ?_ b3.out _)) hb); replace c0 := yaa (yag (g := c5) (o := .cells #[.int .i64 ((yae l1_4 b0).f0), .string ((yae l1_4 b0).f1), .slice d1 ((yae l1_4 b0).f2).length d2, .int .i64 ((yae l1_4 b0).f3)] 124 (0, 0)) (by (repeat refine oneB ?_); refine blk_put (cs := #[.int .i64 ((yae l1_4 b0).f0), .string ((yae l1_4 b0).f1), .slice d1 ((yae l1_4 b0).f2).length d2, .int .i64 0]) ?_ 3 _ rfl; refine blk_put (cs := #[.int .i64 ((yae l1_4 b0).f0), .string ((yae l1_4 b0).f1), .slice none 0 0, .int .i64 0]) ?_ 2 _ rfl; refine blk_put (cs := #[.int .i64 ((yae l1_4 b0).f0), .string (⟨#[]⟩ : ByteArray), .slice none 0 0, .int .i64 0]) ?_ 1 _ rfl; refine blk_put (cs := #[.int .i64 0, .string (⟨#[]⟩ : ByteArray), .slice none 0 0, .int .i64 0]) ?_ 0 _ rfl; exact upB c0.out) hb); replace HB := yaa (below_step (by repeat (with_reducible first | exact HB.out | apply yac | apply yab | apply yad | refine yaf ?_ (Aside0.out ‹_›))) hb); (try clear hb); obtain ⟨s6, s7, s8, s9⟩ := cc4_ c0.out; obtain ⟨t0, t1, t2, t3⟩ := cf4_ c0.out; obtain ⟨t4, t5, t6, t7, t8, t9, u0, u1⟩ := cc8_ b1.out; obtain ⟨u2, u3, u4, u5, u6, u7, u9⟩ := cf7_ b1.out; have v0 := blk_frozen b1.out 7) | (go_at_call 62; (with_reducible refine (impl_within.calls ((yae l1_4 b0).f3) 0 a1_0 false _ A23.out).mono ?_); rintro e w' ⟨rfl, ⟨nd, rfl⟩⟩))
           go_ret
           exact ⟨by first | rfl | (simp [*, errW_none, errW_some] <;> rfl), by repeat (with_reducible first | exact HB.out | apply yac | apply yab | apply yad | refine yaf ?_ (Aside0.out ‹_›))⟩
         ·
          replace c22 := Bool.eq_false_iff.mpr c22
          subst c22
          rw [if_neg (show ¬ (false = true) by decide)] at H
          obtain rfl := Option.some.inj H
          have p103 : 0 ≤ (b0 : Int) := of_decide_eq_true (by first | (with_reducible assumption) | assumption)
          have q103 : b0 < (l1_4.length : Int) := of_decide_eq_true (by first | (with_reducible assumption) | assumption)
          obtain ⟨ad103, d1, d2, d5, b5, b6, b7, b8, hl103_2, hi103_2⟩ := at_T124 HR1_4.out b0 p103 q103
          cases d5
          replace b5 := (HB.out.cell (World.block_lt_of_cell? w _ b5)).trans b5; replace b6 := (HB.out.cell (World.block_lt_of_cell? w _ b6)).trans b6; replace b7 := (HB.out.cell (World.block_lt_of_cell? w _ b7)).trans b7; replace b8 := (HB.out.cell (World.block_lt_of_cell? w _ b8)).trans b8; have HR103_2 := yaa hi103_2; have HC103_2 := yaa hl103_2; clear hi103_2 hl103_2; replace p103 := eq_true p103; replace q103 := eq_true q103
          go_wp2_with (first | ((with_reducible refine gd_ 7 rfl ?_); refine bx_ 7 rfl #[.int .i64 0, .string (⟨#[]⟩ : ByteArray), .slice none 0 0, .int .i64 0] 124 ?_; intro c5 hg w43 hbox hb; have c0 := yaa (hbox); have d3 := yaa ((by rw [hg]; exact (below_size (by repeat (with_reducible first | exact HB.out | apply yac | apply yab | apply yad | refine yaf ?_ (Aside0.out ‹_›)))) : w.heap.size ≤ c5)); replace HB := yaa (below_step (by repeat (with_reducible first | exact HB.out | apply yac | apply yab | apply yad | refine yaf ?_ (Aside0.out ‹_›))) hb); have d7 := d3; have b2 := yaa ((by rw [hg]; exact Nat.ne_of_lt (blk_lt (upB b4.out)) : c9 ≠ c5)); replace b4 := yaa (yag (upB b4.out) hb); have c2 := yaa b2.out.symm; have b3 := yaa ((by rw [hg]; exact Nat.ne_of_lt (blk_lt (upB b1.out)) : d0 ≠ c5)); replace b1 := yaa (yag (upB b1.out) hb); have c4 := yaa b3.out.symm; clear hb hbox hg; have F9 := c2.out; have G0 := b2.out; have G1 := c4.out; have G2 := b3.out; obtain ⟨v1, v2, v3, v4⟩ := cc4_ c0.out; obtain ⟨v6, v7, v8, v9⟩ := cf4_ c0.out; have G3 := c7.out; have G4 := b9.out; obtain ⟨w0, w1, w2, w3, w6, w7, w8, x0⟩ := cc8_ b1.out; obtain ⟨x1, x2, x3, x4, x6, x7, x8⟩ := cf7_ b1.out; have x9 := blk_frozen b1.out 7) | ((with_reducible refine gc_ 62 rfl ?_); refine gl_ (some 28) rfl Try.func62 #[.int .i64 ((yae l1_4 b0).f0), .int .i64 (wrap64 (d4 + 1)), .int .i64 (wrap64 (a1_3 - 1))] ?_; (with_reducible refine (impl_within.calls ((yae l1_4 b0).f0) (wrap64 (d4 + 1)) (wrap64 (a1_3 - 1)) true _ A17.out).mono ?_); rintro e w' ⟨rfl, ⟨nd, rfl⟩⟩; refine ⟨_, rfl, ?_⟩) | (go_at_call 73; (with_reducible refine (impl_nameOk.calls k1 ((yae l1_4 b0).f1) true _ A19.out).mono ?_); rintro e w' ⟨rfl, ⟨nd, rfl⟩⟩) | (go_at_call 72; (with_reducible refine (impl_opsOk.calls k1 _ _ ((yae l1_4 b0).f2) false _ ?side1 ?side2 A21.out).mono ?_); (case side1 => exact Kd.C_below HR103_2.out (by repeat (with_reducible first | exact HB.out | apply yac | apply yab | apply yad | refine yaf ?_ (Aside0.out ‹_›)))); (case side2 => exact HC103_2.out); rintro e w49 ⟨rfl, hb⟩; replace b4 := yaa (yag (g := c9) (o := .cells #[.slice A0_0 l0_0.length c0_0, .int .i64 a0_1, .int .i64 a0_2, .int .i64 a0_3, .int .i64 a0_4, .int .i64 a0_5, .int .i64 a0_6] 24 (0, 0)) (by repeat (with_reducible first | exact b4.out | refine oneB ?_ | refine blk_far ?_ b2.out _)) hb); replace b1 := yaa (yag (g := d0) (o := .cells #[.int .i64 a1_0, .int .i64 a1_1, .int .i64 a1_2, .int .i64 a1_3, .slice (some ad103) l1_4.length c1_4, .slice A1_5 l1_5.length c1_5, .slice A1_6 l1_6.length c1_6, .slice A1_7 l1_7.length c1_7] 63 (0, 0)) (by repeat (with_reducible first | exact b1.out | refine oneB ?_ | refine blk_far ?_ b3.out _)) hb); replace c0 := yaa (yag (g := c5) (o := .cells #[.int .i64 ((yae l1_4 b0).f0), .string ((yae l1_4 b0).f1), .slice d1 ((yae l1_4 b0).f2).length d2, .int .i64 ((yae l1_4 b0).f3)] 124 (0, 0)) (by (repeat refine oneB ?_); refine blk_put (cs := #[.int .i64 ((yae l1_4 b0).f0), .string ((yae l1_4 b0).f1), .slice d1 ((yae l1_4 b0).f2).length d2, .int .i64 0]) ?_ 3 _ rfl; refine blk_put (cs := #[.int .i64 ((yae l1_4 b0).f0), .string ((yae l1_4 b0).f1), .slice none 0 0, .int .i64 0]) ?_ 2 _ rfl; refine blk_put (cs := #[.int .i64 ((yae l1_4 b0).f0), .string (⟨#[]⟩ : ByteArray), .slice none 0 0, .int .i64 0]) ?_ 1 _ rfl; refine blk_put (cs := #[.int .i64 0, .string (⟨#[]⟩ : ByteArray), .slice none 0 0, .int .i64 0]) ?_ 0 _ rfl; exact upB c0.out) hb); replace HB := yaa (below_step (by repeat (with_reducible first | exact HB.out | apply yac | apply yab | apply yad | refine yaf ?_ (Aside0.out ‹_›))) hb); (try clear hb)))
          go_ret
          exact ⟨by first | rfl | (simp [*, errW_none, errW_some] <;> rfl), by repeat (with_reducible first | exact HB.out | apply yac | apply yab | apply yad | refine yaf ?_ (Aside0.out ‹_›))⟩
        ·
         replace c20 := Bool.eq_false_iff.mpr c20
         subst c20
         rw [if_neg (show ¬ (false = true) by decide)] at H
         obtain rfl := Option.some.inj H
         have p103 : 0 ≤ (b0 : Int) := of_decide_eq_true (by first | (with_reducible assumption) | assumption)
         have q103 : b0 < (l1_4.length : Int) := of_decide_eq_true (by first | (with_reducible assumption) | assumption)
         obtain ⟨ad103, d1, d2, d5, b5, b6, b7, b8, hl103_2, hi103_2⟩ := at_T124 HR1_4.out b0 p103 q103
         cases d5
         replace b5 := (HB.out.cell (World.block_lt_of_cell? w _ b5)).trans b5; replace b6 := (HB.out.cell (World.block_lt_of_cell? w _ b6)).trans b6; replace b7 := (HB.out.cell (World.block_lt_of_cell? w _ b7)).trans b7; replace b8 := (HB.out.cell (World.block_lt_of_cell? w _ b8)).trans b8; have HR103_2 := yaa hi103_2; have HC103_2 := yaa hl103_2; clear hi103_2 hl103_2; replace p103 := eq_true p103; replace q103 := eq_true q103
         go_wp2_with (first | ((with_reducible refine gd_ 7 rfl ?_); refine bx_ 7 rfl #[.int .i64 0, .string (⟨#[]⟩ : ByteArray), .slice none 0 0, .int .i64 0] 124 ?_; intro c5 hg w50 hbox hb; have c0 := yaa (hbox); have d3 := yaa ((by rw [hg]; exact (below_size (by repeat (with_reducible first | exact HB.out | apply yac | apply yab | apply yad | refine yaf ?_ (Aside0.out ‹_›)))) : w.heap.size ≤ c5)); replace HB := yaa (below_step (by repeat (with_reducible first | exact HB.out | apply yac | apply yab | apply yad | refine yaf ?_ (Aside0.out ‹_›))) hb); have d7 := d3; have b2 := yaa ((by rw [hg]; exact Nat.ne_of_lt (blk_lt (upB b4.out)) : c9 ≠ c5)); replace b4 := yaa (yag (upB b4.out) hb); have c2 := yaa b2.out.symm; have b3 := yaa ((by rw [hg]; exact Nat.ne_of_lt (blk_lt (upB b1.out)) : d0 ≠ c5)); replace b1 := yaa (yag (upB b1.out) hb); have c4 := yaa b3.out.symm; clear hb hbox hg; have G5 := c2.out; have G6 := b2.out; have G7 := c4.out; have G8 := b3.out; obtain ⟨z0, z1, z2, z3⟩ := cc4_ c0.out; obtain ⟨z4, z5, z6, z7⟩ := cf4_ c0.out; have G9 := c7.out; have H0 := b9.out; obtain ⟨z8, z9, A0, A1, A2, A3, A4, A5⟩ := cc8_ b1.out; obtain ⟨A6, A7, A8, A9, B0, B1, B2⟩ := cf7_ b1.out; have B3 := blk_frozen b1.out 7) | ((with_reducible refine gc_ 62 rfl ?_); refine gl_ (some 28) rfl Try.func62 #[.int .i64 ((yae l1_4 b0).f0), .int .i64 (wrap64 (d4 + 1)), .int .i64 (wrap64 (a1_3 - 1))] ?_; (with_reducible refine (impl_within.calls ((yae l1_4 b0).f0) (wrap64 (d4 + 1)) (wrap64 (a1_3 - 1)) true _ A17.out).mono ?_); rintro e w' ⟨rfl, ⟨nd, rfl⟩⟩; refine ⟨_, rfl, ?_⟩) | (go_at_call 73; (with_reducible refine (impl_nameOk.calls k1 ((yae l1_4 b0).f1) false _ A19.out).mono ?_); rintro e w' ⟨rfl, ⟨nd, rfl⟩⟩))
         go_ret
         exact ⟨by first | rfl | (simp [*, errW_none, errW_some] <;> rfl), by repeat (with_reducible first | exact HB.out | apply yac | apply yab | apply yad | refine yaf ?_ (Aside0.out ‹_›))⟩
       ·
        replace c18 := Bool.eq_false_iff.mpr c18
        subst c18
        rw [if_neg (show ¬ (false = true) by decide)] at H
        obtain rfl := Option.some.inj H
        have p103 : 0 ≤ (b0 : Int) := of_decide_eq_true (by first | (with_reducible assumption) | assumption)
        have q103 : b0 < (l1_4.length : Int) := of_decide_eq_true (by first | (with_reducible assumption) | assumption)
        obtain ⟨ad103, d1, d2, d5, b5, b6, b7, b8, hl103_2, hi103_2⟩ := at_T124 HR1_4.out b0 p103 q103
        cases d5
        replace b5 := (HB.out.cell (World.block_lt_of_cell? w _ b5)).trans b5; replace b6 := (HB.out.cell (World.block_lt_of_cell? w _ b6)).trans b6; replace b7 := (HB.out.cell (World.block_lt_of_cell? w _ b7)).trans b7; replace b8 := (HB.out.cell (World.block_lt_of_cell? w _ b8)).trans b8; have HR103_2 := yaa hi103_2; have HC103_2 := yaa hl103_2; clear hi103_2 hl103_2; replace p103 := eq_true p103; replace q103 := eq_true q103
        go_wp2_with (first | ((with_reducible refine gd_ 7 rfl ?_); refine bx_ 7 rfl #[.int .i64 0, .string (⟨#[]⟩ : ByteArray), .slice none 0 0, .int .i64 0] 124 ?_; intro c5 hg w56 hbox hb; have c0 := yaa (hbox); have d3 := yaa ((by rw [hg]; exact (below_size (by repeat (with_reducible first | exact HB.out | apply yac | apply yab | apply yad | refine yaf ?_ (Aside0.out ‹_›)))) : w.heap.size ≤ c5)); replace HB := yaa (below_step (by repeat (with_reducible first | exact HB.out | apply yac | apply yab | apply yad | refine yaf ?_ (Aside0.out ‹_›))) hb); have d7 := d3; have b2 := yaa ((by rw [hg]; exact Nat.ne_of_lt (blk_lt (upB b4.out)) : c9 ≠ c5)); replace b4 := yaa (yag (upB b4.out) hb); have c2 := yaa b2.out.symm; have b3 := yaa ((by rw [hg]; exact Nat.ne_of_lt (blk_lt (upB b1.out)) : d0 ≠ c5)); replace b1 := yaa (yag (upB b1.out) hb); have c4 := yaa b3.out.symm; clear hb hbox hg; have H1 := c2.out; have H2 := b2.out; have H3 := c4.out; have H4 := b3.out; obtain ⟨B4, B5, B6, B7⟩ := cc4_ c0.out; obtain ⟨B8, B9, C0, C1⟩ := cf4_ c0.out; have H5 := c7.out; have H6 := b9.out; obtain ⟨C2, C3, C4, C5, C6, C7, C8, C9⟩ := cc8_ b1.out; obtain ⟨D0, D1, D2, D3, D4, D5, D6⟩ := cf7_ b1.out; have D7 := blk_frozen b1.out 7) | ((with_reducible refine gc_ 62 rfl ?_); refine gl_ (some 28) rfl Try.func62 #[.int .i64 ((yae l1_4 b0).f0), .int .i64 (wrap64 (d4 + 1)), .int .i64 (wrap64 (a1_3 - 1))] ?_; (with_reducible refine (impl_within.calls ((yae l1_4 b0).f0) (wrap64 (d4 + 1)) (wrap64 (a1_3 - 1)) false _ A17.out).mono ?_); rintro e w' ⟨rfl, ⟨nd, rfl⟩⟩; refine ⟨_, rfl, ?_⟩))
        go_ret
        exact ⟨by first | rfl | (simp [*, errW_none, errW_some] <;> rfl), by repeat (with_reducible first | exact HB.out | apply yac | apply yab | apply yad | refine yaf ?_ (Aside0.out ‹_›))⟩
      ·
       rw [if_neg c16] at H
       exact absurd H (by simp)
     ·
      rw [if_neg c15] at H
      exact absurd H (by simp)
    ·
     rw [if_neg c14] at H
     have l2 : decide (b0 < (l1_4.length : Int)) = false := decide_eq_false c14; clear c14; obtain rfl := Option.some.inj H
     go_wp2
     go_ret
     exact ⟨by first | rfl | (simp [*, errW_none, errW_some] <;> rfl), by repeat (with_reducible first | exact HB.out | apply yac | apply yab | apply yad | refine yaf ?_ (Aside0.out ‹_›))⟩
end
section
open Go.Proofs.YtgpkkkmapgnhkaaW.PrintWords.Aside0 renaming mk → yaa
open Go.Proofs.YtgpkkkmapgnhkaaW.PrintWords renaming pw_below_drewN → yab, below_alloc → yac, below_drew1 → yad, below_set → yaf
open Go.Proofs.Ytgpkkkmapgnhkaa.X renaming rd_T156 → yae

mutual
def impl_filesOk.l0 : Nat → List (S156) → Int → Int → Int → Int → Int → Int → List (S124) → List (S156) → List ByteArray → List (S158) → Option (Bool)
 | 0, _, _, _, _, _, _, _, _, _, _, _ => none
 | k + 1, x16, x17, x18, x103000, x103001, x103002, x103003, x103004, x103005, x103006, x103007 => if x18 < x17 then (if 0 ≤ x18 then (if x18 < (x16.length : Int) then ((impl_nameOk.f k ((rd_T156 x16 x18).f0)).bind fun t105 => (if t105 = true then ((impl_within.f ((rd_T156 x16 x18).f1) 0 x103000).bind fun t106 => (if t106 = true then (impl_filesOk.j1 k x18 x16 x17 x18 (decide ((((rd_T156 x16 x18).f2).length : Int) > 220)) x103000 x103001 x103002 x103003 x103004 x103005 x103006 x103007 ((rd_T156 x16 x18).f0) ((rd_T156 x16 x18).f1) ((rd_T156 x16 x18).f2)) else (impl_filesOk.j1 k x18 x16 x17 x18 true x103000 x103001 x103002 x103003 x103004 x103005 x103006 x103007 ((rd_T156 x16 x18).f0) ((rd_T156 x16 x18).f1) ((rd_T156 x16 x18).f2)))) else (impl_filesOk.j1 k x18 x16 x17 x18 true x103000 x103001 x103002 x103003 x103004 x103005 x103006 x103007 ((rd_T156 x16 x18).f0) ((rd_T156 x16 x18).f1) ((rd_T156 x16 x18).f2)))) else (none)) else (none)) else (some true)
def impl_filesOk.j1 : Nat → Int → List (S156) → Int → Int → Bool → Int → Int → Int → Int → List (S124) → List (S156) → List ByteArray → List (S158) → ByteArray → Int → List Int → Option (Bool)
 | 0, _, _, _, _, _, _, _, _, _, _, _, _, _, _, _, _ => none
 | k + 1, x5, x16, x17, x18, x40, x103000, x103001, x103002, x103003, x103004, x103005, x103006, x103007, x105000, x105001, x105002 => if x40 = true then (some false) else (if 0 ≤ x5 then (if x5 ≤ (x103005.length : Int) then ((some (x103005.take (x5 : Int).toNat : List (S156))).bind fun y107 => (impl_filesOk.l1 k x16 x17 x18 y107 (y107.length : Int) 0 x103000 x103001 x103002 x103003 x103004 x103005 x103006 x103007 x105000 x105001 x105002)) else (none)) else (none))
def impl_filesOk.l1 : Nat → List (S156) → Int → Int → List (S156) → Int → Int → Int → Int → Int → Int → List (S124) → List (S156) → List ByteArray → List (S158) → ByteArray → Int → List Int → Option (Bool)
 | 0, _, _, _, _, _, _, _, _, _, _, _, _, _, _, _, _, _ => none
 | k + 1, x16, x17, x18, x44, x45, x46, x103000, x103001, x103002, x103003, x103004, x103005, x103006, x103007, x105000, x105001, x105002 => if x46 < x45 then (if 0 ≤ x46 then (if x46 < (x44.length : Int) then (if x105000.toList = ((rd_T156 x44 x46).f0).toList then (some false) else (impl_filesOk.l1 k x16 x17 x18 x44 x45 (wrap64 (x46 + 1)) x103000 x103001 x103002 x103003 x103004 x103005 x103006 x103007 x105000 x105001 x105002)) else (none)) else (none)) else (impl_filesOk.l0 k x16 x17 (wrap64 (x18 + 1)) x103000 x103001 x103002 x103003 x103004 x103005 x103006 x103007)
end
def impl_filesOk.f (k : Nat) (l0_0 : List Int) (a0_1 : Int) (a0_2 : Int) (a0_3 : Int) (a0_4 : Int) (a0_5 : Int) (a0_6 : Int) (a1_0 : Int) (a1_1 : Int) (a1_2 : Int) (a1_3 : Int) (l1_4 : List (S124)) (l1_5 : List (S156)) (l1_6 : List ByteArray) (l1_7 : List (S158)) : Option (Bool) := if (l1_5.length : Int) > a0_5 then (some false) else (impl_filesOk.l0 k l1_5 (l1_5.length : Int) 0 a1_0 a1_1 a1_2 a1_3 l1_4 l1_5 l1_6 l1_7)
set_option maxHeartbeats 8000000 in
set_option maxRecDepth 100000 in
theorem impl_filesOk.calls (k : Nat) (A0_0 : Option Addr) (c0_0 : Nat) (l0_0 : List Int) (a0_1 : Int) (a0_2 : Int) (a0_3 : Int) (a0_4 : Int) (a0_5 : Int) (a0_6 : Int) (a1_0 : Int) (a1_1 : Int) (a1_2 : Int) (a1_3 : Int) (A1_4 : Option Addr) (c1_4 : Nat) (l1_4 : List (S124)) (A1_5 : Option Addr) (c1_5 : Nat) (l1_5 : List (S156)) (A1_6 : Option Addr) (c1_6 : Nat) (l1_6 : List ByteArray) (A1_7 : Option Addr) (c1_7 : Nat) (l1_7 : List (S158)) (r : Bool) (w : World) (hr0_0 : Kd.C (Kd.int .u8) w A0_0 l0_0.length l0_0) (hc0_0 : l0_0.length ≤ c0_0) (hr1_4 : Kd.C k124 w A1_4 l1_4.length l1_4) (hc1_4 : l1_4.length ≤ c1_4) (hr1_5 : Kd.C k156 w A1_5 l1_5.length l1_5) (hc1_5 : l1_5.length ≤ c1_5) (hr1_6 : Kd.C Kd.string w A1_6 l1_6.length l1_6) (hc1_6 : l1_6.length ≤ c1_6) (hr1_7 : Kd.C k158 w A1_7 l1_7.length l1_7) (hc1_7 : l1_7.length ≤ c1_7) (h : impl_filesOk.f k l0_0 a0_1 a0_2 a0_3 a0_4 a0_5 a0_6 a1_0 a1_1 a1_2 a1_3 l1_4 l1_5 l1_6 l1_7 = some r) :
  Calls Try.prog 89 #[.agg #[.slice A0_0 l0_0.length c0_0, .int .i64 a0_1, .int .i64 a0_2, .int .i64 a0_3, .int .i64 a0_4, .int .i64 a0_5, .int .i64 a0_6], .agg #[.int .i64 a1_0, .int .i64 a1_1, .int .i64 a1_2, .int .i64 a1_3, .slice A1_4 l1_4.length c1_4, .slice A1_5 l1_5.length c1_5, .slice A1_6 l1_6.length c1_6, .slice A1_7 l1_7.length c1_7]] w fun e w' => e = .returned (.bool r) ∧ Below w.heap.size w w' := by
 have hu24 := Try.underlying24; have hu63 := Try.underlying63; have hu156 := Try.underlying156; have HR0_0 := yaa hr0_0; have HC0_0 := yaa hc0_0; clear hr0_0 hc0_0; have HR1_4 := yaa hr1_4; have HC1_4 := yaa hc1_4; clear hr1_4 hc1_4; have HR1_5 := yaa hr1_5; have HC1_5 := yaa hc1_5; clear hr1_5 hc1_5; have HR1_6 := yaa hr1_6; have HC1_6 := yaa hc1_6; clear hr1_6 hc1_6; have HR1_7 := yaa hr1_7; have HC1_7 := yaa hc1_7; clear hr1_7 hc1_7; have HB := yaa (Below.refl w.heap.size w); have H : (if (l1_5.length : Int) > a0_5 then (some false) else (impl_filesOk.l0 k l1_5 (l1_5.length : Int) 0 a1_0 a1_1 a1_2 a1_3 l1_4 l1_5 l1_6 l1_7)) = some r := h; clear h
 by_cases c3 : (l1_5.length : Int) > a0_5
 ·
  rw [if_pos c3] at H
  have s1 : decide (a0_5 < (l1_5.length : Int)) = true := decide_eq_true c3; clear c3; obtain rfl := Option.some.inj H
  go_enter Try.func89, Try.ntmps89
  go_wp2_with (first | ((with_reducible refine gd_ 2 rfl ?_); (try (refine gate_guard (by rfl) ?_; dsimp only)); refine bx_ 2 rfl #[.slice A0_0 l0_0.length c0_0, .int .i64 a0_1, .int .i64 a0_2, .int .i64 a0_3, .int .i64 a0_4, .int .i64 a0_5, .int .i64 a0_6] 24 ?_; intro d4 hg w4 hbox hb; have b1 := yaa (hbox); have r5 := yaa ((by rw [hg]; exact (below_size (upH HB.out)) : w.heap.size ≤ d4)); replace HB := yaa (below_step (upH HB.out) hb); have u3 := r5; clear hb hbox hg) | ((with_reducible refine gd_ 3 rfl ?_); (try (refine gate_guard (by rfl) ?_; dsimp only)); refine bx_ 3 rfl #[.int .i64 a1_0, .int .i64 a1_1, .int .i64 a1_2, .int .i64 a1_3, .slice A1_4 l1_4.length c1_4, .slice A1_5 l1_5.length c1_5, .slice A1_6 l1_6.length c1_6, .slice A1_7 l1_7.length c1_7] 63 ?_; intro d5 hg w5 hbox hb; have b2 := yaa (hbox); have r6 := yaa ((by rw [hg]; exact (below_size (by repeat (with_reducible first | exact HB.out | apply yac | apply yab | apply yad | refine yaf ?_ (Aside0.out ‹_›)))) : w.heap.size ≤ d5)); replace HB := yaa (below_step (by repeat (with_reducible first | exact HB.out | apply yac | apply yab | apply yad | refine yaf ?_ (Aside0.out ‹_›))) hb); have u4 := r6; have b6 := yaa ((by rw [hg]; exact Nat.ne_of_lt (blk_lt (upB b1.out)) : d4 ≠ d5)); replace b1 := yaa (blk_below (upB b1.out) hb); have b9 := yaa b6.out.symm; clear hb hbox hg; have F2 := b9.out; have F3 := b6.out; obtain ⟨h9, i0, i1, i2, i3, i4, i5, i6⟩ := cc8_ b2.out; obtain ⟨i7, i8, i9, j0, j2, j3, j4, j5⟩ := cf8_ b2.out; obtain ⟨j6, j7, j8, j9, k0, k2, k4⟩ := cc7_ b1.out; obtain ⟨k5, k6, k7, k8, k9, l2⟩ := cf6_ b1.out; have l3 := blk_frozen b1.out 6))
  go_ret
  exact ⟨by first | rfl | (simp [*, errW_none, errW_some] <;> rfl), by repeat (with_reducible first | exact HB.out | apply yac | apply yab | apply yad | refine yaf ?_ (Aside0.out ‹_›))⟩
 ·
  rw [if_neg c3] at H
  have s1 : decide (a0_5 < (l1_5.length : Int)) = false := decide_eq_false c3; clear c3; have H' := yaa H; clear H
  go_enter Try.func89, Try.ntmps89
  go_wp2_with (first | ((with_reducible refine gd_ 2 rfl ?_); (try (refine gate_guard (by rfl) ?_; dsimp only)); refine bx_ 2 rfl #[.slice A0_0 l0_0.length c0_0, .int .i64 a0_1, .int .i64 a0_2, .int .i64 a0_3, .int .i64 a0_4, .int .i64 a0_5, .int .i64 a0_6] 24 ?_; intro d4 hg w9 hbox hb; have b1 := yaa (hbox); have r5 := yaa ((by rw [hg]; exact (below_size (upH HB.out)) : w.heap.size ≤ d4)); replace HB := yaa (below_step (upH HB.out) hb); have u3 := r5; clear hb hbox hg) | ((with_reducible refine gd_ 3 rfl ?_); (try (refine gate_guard (by rfl) ?_; dsimp only)); refine bx_ 3 rfl #[.int .i64 a1_0, .int .i64 a1_1, .int .i64 a1_2, .int .i64 a1_3, .slice A1_4 l1_4.length c1_4, .slice A1_5 l1_5.length c1_5, .slice A1_6 l1_6.length c1_6, .slice A1_7 l1_7.length c1_7] 63 ?_; intro d5 hg w10 hbox hb; have b2 := yaa (hbox); have r6 := yaa ((by rw [hg]; exact (below_size (by repeat (with_reducible first | exact HB.out | apply yac | apply yab | apply yad | refine yaf ?_ (Aside0.out ‹_›)))) : w.heap.size ≤ d5)); replace HB := yaa (below_step (by repeat (with_reducible first | exact HB.out | apply yac | apply yab | apply yad | refine yaf ?_ (Aside0.out ‹_›))) hb); have u4 := r6; have b6 := yaa ((by rw [hg]; exact Nat.ne_of_lt (blk_lt (upB b1.out)) : d4 ≠ d5)); replace b1 := yaa (blk_below (upB b1.out) hb); have b9 := yaa b6.out.symm; clear hb hbox hg; have A3 := b9.out; have A4 := b6.out; obtain ⟨e4, e5, e6, e7, e8, e9, f3, f4⟩ := cc8_ b2.out; obtain ⟨f5, f6, f7, f8, f9, g0, g1, g2⟩ := cf8_ b2.out; obtain ⟨g3, g4, g5, g6, g7, g8, g9⟩ := cc7_ b1.out; obtain ⟨h0, h1, h2, h3, h4, h5⟩ := cf6_ b1.out; have h6 := blk_frozen b1.out 6))
  (try simp only [Act.put, List.setIfInBounds_toArray, List.set_cons_zero, List.set_cons_succ])
  go_loopg [18] k (fun kq v18 w' => ∃ (b0 : Int), v18 = .int .i64 b0 ∧ Aside0 (impl_filesOk.l0 kq l1_5 (l1_5.length : Int) b0 a1_0 a1_1 a1_2 a1_3 l1_4 l1_5 l1_6 l1_7 = some r) ∧ Aside0 (kq ≤ k) ∧ Aside0 (w'.heap[d4]? = some (.cells #[(.slice A0_0 l0_0.length c0_0), .int .i64 a0_1, .int .i64 a0_2, .int .i64 a0_3, .int .i64 a0_4, .int .i64 a0_5, .int .i64 a0_6] 24 (0, 0))) ∧ Aside0 (w'.heap[d5]? = some (.cells #[.int .i64 a1_0, .int .i64 a1_1, .int .i64 a1_2, .int .i64 a1_3, (.slice A1_4 l1_4.length c1_4), (.slice A1_5 l1_5.length c1_5), (.slice A1_6 l1_6.length c1_6), (.slice A1_7 l1_7.length c1_7)] 63 (0, 0))) ∧ Aside0 (Below w.heap.size w w'))
  case atStart => exact ⟨(0), (by first | rfl | (simp; done) | (simp [*]; done)), H', ⟨Nat.le_refl _⟩, ⟨by exact upB b1.out⟩, ⟨by exact upB b2.out⟩, ⟨by repeat (with_reducible first | exact HB.out | apply yac | apply yab | apply yad | refine yaf ?_ (Aside0.out ‹_›))⟩⟩
  case round =>
   clear H'; (try clear c1); (try clear p2); (try clear c3); (try clear s1); (try clear c6); (try clear c8); (try clear c11); (try clear e4); (try clear e5); (try clear e6); (try clear e7); (try clear e8); (try clear e9); (try clear f3); (try clear f4); (try clear g3); (try clear g4); (try clear g5); (try clear g6); (try clear g7); (try clear g8); (try clear g9); (try clear h9); (try clear i0); (try clear i1); (try clear i2); (try clear i3); (try clear i4); (try clear i5); (try clear i6); (try clear j6); (try clear j7); (try clear j8); (try clear j9); (try clear k0); (try clear k2); (try clear k4); (try clear f5); (try clear f6); (try clear f7); (try clear f8); (try clear f9); (try clear g0); (try clear g1); (try clear g2); (try clear h0); (try clear h1); (try clear h2); (try clear h3); (try clear h4); (try clear h5); (try clear h6); (try clear i7); (try clear i8); (try clear i9); (try clear j0); (try clear j2); (try clear j3); (try clear j4); (try clear j5); (try clear k5); (try clear k6); (try clear k7); (try clear k8); (try clear k9); (try clear l2); (try clear l3); obtain ⟨b0, rfl, HA, HK1, b1, b2, HB⟩ := hrel
   cases gk with
   | zero => exact absurd HA.out (by simp [impl_filesOk.l0])
   | succ k1 =>
    have H := HA.out; clear HA
    simp only [impl_filesOk.l0] at H
    by_cases c14 : b0 < (l1_5.length : Int)
    ·
     rw [if_pos c14] at H
     have r7 : decide (b0 < (l1_5.length : Int)) = true := decide_eq_true c14; clear c14
     by_cases c15 : 0 ≤ b0
     ·
      rw [if_pos c15] at H
      replace c15 := decide_eq_true c15
      by_cases c16 : b0 < (l1_5.length : Int)
      ·
       rw [if_pos c16] at H
       replace c16 := decide_eq_true c16; have HC17 := yaa H; clear H
       have p103 : 0 ≤ (b0 : Int) := of_decide_eq_true (by first | (with_reducible assumption) | assumption)
       have q103 : b0 < (l1_5.length : Int) := of_decide_eq_true (by first | (with_reducible assumption) | assumption)
       obtain ⟨ad103, r8, r9, z8, d6, d7, d8, hl103_2, hi103_2⟩ := at_T156 HR1_5.out b0 p103 q103
       cases z8
       replace d6 := (HB.out.cell (World.block_lt_of_cell? w _ d6)).trans d6; replace d7 := (HB.out.cell (World.block_lt_of_cell? w _ d7)).trans d7; replace d8 := (HB.out.cell (World.block_lt_of_cell? w _ d8)).trans d8; have HR103_2 := yaa hi103_2; have HC103_2 := yaa hl103_2; clear hi103_2 hl103_2; replace p103 := eq_true p103; replace q103 := eq_true q103
       go_upto_region 6 with (first | ((with_reducible refine gd_ 6 rfl ?_); (try (refine gate_guard (by rfl) ?_; dsimp only)); refine bx_ 6 rfl #[.string (⟨#[]⟩ : ByteArray), .int .i64 0, .slice none 0 0] 156 ?_; intro e3 hg w18 hbox hb; have b3 := yaa (hbox); have u6 := yaa ((by rw [hg]; exact (below_size (by repeat (with_reducible first | exact HB.out | apply yac | apply yab | apply yad | refine yaf ?_ (Aside0.out ‹_›)))) : w.heap.size ≤ e3)); replace HB := yaa (below_step (by repeat (with_reducible first | exact HB.out | apply yac | apply yab | apply yad | refine yaf ?_ (Aside0.out ‹_›))) hb); have A5 := u6; have b5 := yaa ((by rw [hg]; exact Nat.ne_of_lt (blk_lt (upB b1.out)) : d4 ≠ e3)); replace b1 := yaa (blk_below (upB b1.out) hb); have c0 := yaa b5.out.symm; have b4 := yaa ((by rw [hg]; exact Nat.ne_of_lt (blk_lt (upB b2.out)) : d5 ≠ e3)); replace b2 := yaa (blk_below (upB b2.out) hb); have b7 := yaa b4.out.symm; clear hb hbox hg; have A6 := c0.out; have A7 := b5.out; have A8 := b7.out; have A9 := b4.out; obtain ⟨l5, l6, l7⟩ := cc3_ b3.out; obtain ⟨l8, l9⟩ := cf2_ b3.out; have m0 := blk_frozen b3.out 2))
       (try simp only [Act.put, List.setIfInBounds_toArray, List.set_cons_zero, List.set_cons_succ])
       go_cut [40] (fun v40 wc => ∃ (kq : Nat) (h7 : Bool), v40 = .bool h7 ∧ Aside0 (impl_filesOk.j1 kq b0 l1_5 (l1_5.length : Int) b0 h7 a1_0 a1_1 a1_2 a1_3 l1_4 l1_5 l1_6 l1_7 ((yae l1_5 b0).f0) ((yae l1_5 b0).f1) ((yae l1_5 b0).f2) = some r) ∧ Aside0 (kq ≤ k1) ∧ Aside0 (wc.heap[d4]? = some (.cells #[(.slice A0_0 l0_0.length c0_0), .int .i64 a0_1, .int .i64 a0_2, .int .i64 a0_3, .int .i64 a0_4, .int .i64 a0_5, .int .i64 a0_6] 24 (0, 0))) ∧ Aside0 (wc.heap[d5]? = some (.cells #[.int .i64 a1_0, .int .i64 a1_1, .int .i64 a1_2, .int .i64 a1_3, (.slice A1_4 l1_4.length c1_4), (.slice (some ad103) l1_5.length c1_5), (.slice A1_6 l1_6.length c1_6), (.slice A1_7 l1_7.length c1_7)] 63 (0, 0))) ∧ Aside0 (wc.heap[e3]? = some (.cells #[.string ((yae l1_5 b0).f0), .int .i64 ((yae l1_5 b0).f1), (.slice r8 ((yae l1_5 b0).f2).length r9)] 156 (0, 0))) ∧ Aside0 (Below w.heap.size w wc))
       case first =>
        have H := HC17.out; clear HC17; obtain ⟨z9, A22, H⟩ := bindA H; (try dsimp only at H)
        by_cases c23 : z9 = true
        ·
         subst c23
         rw [if_pos rfl] at H
         obtain ⟨A0, A24, H⟩ := bindA H; (try dsimp only at H)
         by_cases c25 : A0 = true
         ·
          subst c25
          rw [if_pos rfl] at H
          have H' := yaa H; clear H; have B0 := c0.out; have B1 := b5.out; have B2 := b7.out; have B3 := b4.out; obtain ⟨m1, m2, m3⟩ := cc3_ b3.out; obtain ⟨m4, m5, m6⟩ := cf3_ b3.out
          go_wp2_with (first | ((with_reducible refine gc_ 73 rfl ?_); refine gl_ (some 25) rfl Try.func73 #[.string ((yae l1_5 b0).f0)] ?_; (with_reducible refine (impl_nameOk.calls k1 ((yae l1_5 b0).f0) true _ A22.out).mono ?_); rintro e w' ⟨rfl, ⟨nd, rfl⟩⟩; refine ⟨_, rfl, ?_⟩; have B4 := b9.out; have B5 := b6.out; obtain ⟨m7, m8, m9, n0, n1, n2, n3, n4⟩ := cc8_ b2.out; obtain ⟨n5, n6, n7, n8, n9, o0, o1⟩ := cf7_ b2.out; have o2 := blk_frozen b2.out 7) | (go_at_call 62; (with_reducible refine (impl_within.calls ((yae l1_5 b0).f1) 0 a1_0 true _ A24.out).mono ?_); rintro e w' ⟨rfl, ⟨nd, rfl⟩⟩))
          go_meet
          case rel => exact ⟨_, (decide ((((yae l1_5 b0).f2).length : Int) > 220)), (by first | rfl | (simp; done) | (simp [*]; done)), H', ⟨by have := HK1.out; first | omega | exact Nat.le_refl _⟩, ⟨by repeat (with_reducible first | exact b1.out | refine oneB ?_ | refine blk_far ?_ b5.out _)⟩, ⟨by repeat (with_reducible first | exact b2.out | refine oneB ?_ | refine blk_far ?_ b4.out _)⟩, ⟨by (repeat refine oneB ?_); refine blk_put (cs := #[.string ((yae l1_5 b0).f0), .int .i64 ((yae l1_5 b0).f1), .slice none 0 0]) ?_ 2 _ rfl; refine blk_put (cs := #[.string ((yae l1_5 b0).f0), .int .i64 0, .slice none 0 0]) ?_ 1 _ rfl; refine blk_put (cs := #[.string (⟨#[]⟩ : ByteArray), .int .i64 0, .slice none 0 0]) ?_ 0 _ rfl; exact upB b3.out⟩, ⟨by repeat (with_reducible first | exact HB.out | apply yac | apply yab | apply yad | refine yaf ?_ (Aside0.out ‹_›))⟩⟩
         ·
          replace c25 := Bool.eq_false_iff.mpr c25
          subst c25
          rw [if_neg (show ¬ (false = true) by decide)] at H
          have H' := yaa H; clear H; have B6 := c0.out; have B7 := b5.out; have B8 := b7.out; have B9 := b4.out; obtain ⟨o3, o4, o5⟩ := cc3_ b3.out; obtain ⟨o6, o7, o8⟩ := cf3_ b3.out
          go_wp2_with (first | ((with_reducible refine gc_ 73 rfl ?_); refine gl_ (some 25) rfl Try.func73 #[.string ((yae l1_5 b0).f0)] ?_; (with_reducible refine (impl_nameOk.calls k1 ((yae l1_5 b0).f0) true _ A22.out).mono ?_); rintro e w' ⟨rfl, ⟨nd, rfl⟩⟩; refine ⟨_, rfl, ?_⟩; have C0 := b9.out; have C1 := b6.out; obtain ⟨o9, p0, p3, p4, p5, p6, p7, p8⟩ := cc8_ b2.out; obtain ⟨p9, q0, q2, q3, q5, q6, q7⟩ := cf7_ b2.out; have q8 := blk_frozen b2.out 7) | (go_at_call 62; (with_reducible refine (impl_within.calls ((yae l1_5 b0).f1) 0 a1_0 false _ A24.out).mono ?_); rintro e w' ⟨rfl, ⟨nd, rfl⟩⟩))
          go_meet
          case rel => exact ⟨_, (true), (by first | rfl | (simp; done) | (simp [*]; done)), H', ⟨by have := HK1.out; first | omega | exact Nat.le_refl _⟩, ⟨by repeat (with_reducible first | exact b1.out | refine oneB ?_ | refine blk_far ?_ b5.out _)⟩, ⟨by repeat (with_reducible first | exact b2.out | refine oneB ?_ | refine blk_far ?_ b4.out _)⟩, ⟨by (repeat refine oneB ?_); refine blk_put (cs := #[.string ((yae l1_5 b0).f0), .int .i64 ((yae l1_5 b0).f1), .slice none 0 0]) ?_ 2 _ rfl; refine blk_put (cs := #[.string ((yae l1_5 b0).f0), .int .i64 0, .slice none 0 0]) ?_ 1 _ rfl; refine blk_put (cs := #[.string (⟨#[]⟩ : ByteArray), .int .i64 0, .slice none 0 0]) ?_ 0 _ rfl; exact upB b3.out⟩, ⟨by repeat (with_reducible first | exact HB.out | apply yac | apply yab | apply yad | refine yaf ?_ (Aside0.out ‹_›))⟩⟩
        ·
         replace c23 := Bool.eq_false_iff.mpr c23
         subst c23
         rw [if_neg (show ¬ (false = true) by decide)] at H
         have H' := yaa H; clear H; have C2 := c0.out; have C3 := b5.out; have C4 := b7.out; have C5 := b4.out; obtain ⟨q9, r0, r1⟩ := cc3_ b3.out; obtain ⟨r2, r3, r4⟩ := cf3_ b3.out
         go_wp2_with (first | ((with_reducible refine gc_ 73 rfl ?_); refine gl_ (some 25) rfl Try.func73 #[.string ((yae l1_5 b0).f0)] ?_; (with_reducible refine (impl_nameOk.calls k1 ((yae l1_5 b0).f0) false _ A22.out).mono ?_); rintro e w' ⟨rfl, ⟨nd, rfl⟩⟩; refine ⟨_, rfl, ?_⟩))
         go_meet
         case rel => exact ⟨_, (true), (by first | rfl | (simp; done) | (simp [*]; done)), H', ⟨by have := HK1.out; first | omega | exact Nat.le_refl _⟩, ⟨by repeat (with_reducible first | exact b1.out | refine oneB ?_ | refine blk_far ?_ b5.out _)⟩, ⟨by repeat (with_reducible first | exact b2.out | refine oneB ?_ | refine blk_far ?_ b4.out _)⟩, ⟨by (repeat refine oneB ?_); refine blk_put (cs := #[.string ((yae l1_5 b0).f0), .int .i64 ((yae l1_5 b0).f1), .slice none 0 0]) ?_ 2 _ rfl; refine blk_put (cs := #[.string ((yae l1_5 b0).f0), .int .i64 0, .slice none 0 0]) ?_ 1 _ rfl; refine blk_put (cs := #[.string (⟨#[]⟩ : ByteArray), .int .i64 0, .slice none 0 0]) ?_ 0 _ rfl; exact upB b3.out⟩, ⟨by repeat (with_reducible first | exact HB.out | apply yac | apply yab | apply yad | refine yaf ?_ (Aside0.out ‹_›))⟩⟩
       case rest =>
        clear HC17; (try clear c1); (try clear p1); (try clear q1); (try clear hx1); (try clear c2); (try clear p2); (try clear c3); (try clear s1); (try clear c6); (try clear c7); (try clear c8); (try clear c10); (try clear p10); (try clear q10); (try clear hx10); (try clear c11); (try clear c14); (try clear r7); (try clear c15); (try clear c15b0); (try clear c16); (try clear c16b0); (try clear c19); (try clear c20); (try clear c23); (try clear c25); (try clear c26); (try clear c27); (try clear c29); (try clear c31); (try clear c32); (try clear c34); (try clear c36); (try clear c37); (try clear e4); (try clear e5); (try clear e6); (try clear e7); (try clear e8); (try clear e9); (try clear f3); (try clear f4); (try clear g3); (try clear g4); (try clear g5); (try clear g6); (try clear g7); (try clear g8); (try clear g9); (try clear l5); (try clear l6); (try clear l7); (try clear m1); (try clear m2); (try clear m3); (try clear m7); (try clear m8); (try clear m9); (try clear n0); (try clear n1); (try clear n2); (try clear n3); (try clear n4); (try clear o3); (try clear o4); (try clear o5); (try clear o9); (try clear p0); (try clear p3); (try clear p4); (try clear p5); (try clear p6); (try clear p7); (try clear p8); (try clear q9); (try clear r0); (try clear r1); (try clear h9); (try clear i0); (try clear i1); (try clear i2); (try clear i3); (try clear i4); (try clear i5); (try clear i6); (try clear j6); (try clear j7); (try clear j8); (try clear j9); (try clear k0); (try clear k2); (try clear k4); (try clear f5); (try clear f6); (try clear f7); (try clear f8); (try clear f9); (try clear g0); (try clear g1); (try clear g2); (try clear h0); (try clear h1); (try clear h2); (try clear h3); (try clear h4); (try clear h5); (try clear h6); (try clear l8); (try clear l9); (try clear m0); (try clear m4); (try clear m5); (try clear m6); (try clear n5); (try clear n6); (try clear n7); (try clear n8); (try clear n9); (try clear o0); (try clear o1); (try clear o2); (try clear o6); (try clear o7); (try clear o8); (try clear p9); (try clear q0); (try clear q2); (try clear q3); (try clear q5); (try clear q6); (try clear q7); (try clear q8); (try clear r2); (try clear r3); (try clear r4); (try clear i7); (try clear i8); (try clear i9); (try clear j0); (try clear j2); (try clear j3); (try clear j4); (try clear j5); (try clear k5); (try clear k6); (try clear k7); (try clear k8); (try clear k9); (try clear l2); (try clear l3); (try clear d6); (try clear d7); (try clear d8); (try clear p103); (try clear p2); (try clear q103); obtain ⟨kq, h7, rfl, HA, HJ16, b1, b2, b3, HB⟩ := hcut
        cases kq with
        | zero => exact absurd HA.out (by simp [impl_filesOk.j1])
        | succ kj16 =>
         have H := HA.out; clear HA
         simp only [impl_filesOk.j1] at H
         by_cases c39 : h7 = true
         ·
          subst c39
          rw [if_pos rfl] at H
          obtain rfl := Option.some.inj H
          go_wp2
          go_ret
          exact ⟨by first | rfl | (simp [*, errW_none, errW_some] <;> rfl), by repeat (with_reducible first | exact HB.out | apply yac | apply yab | apply yad | refine yaf ?_ (Aside0.out ‹_›))⟩
         ·
          replace c39 := Bool.eq_false_iff.mpr c39
          subst c39
          rw [if_neg (show ¬ (false = true) by decide)] at H
          by_cases c40 : 0 ≤ b0
          ·
           rw [if_pos c40] at H
           have v1 := eq_true c40; replace c40 := decide_eq_true c40
           by_cases c41 : b0 ≤ (l1_5.length : Int)
           ·
            rw [if_pos c41] at H
            have v2 := eq_true c41; replace c41 := decide_eq_true c41; obtain ⟨y107, hy107⟩ : ∃ y_ : List (S156), y_ = (l1_5.take (b0 : Int).toNat) := ⟨_, rfl⟩
            replace H : (impl_filesOk.l1 kj16 l1_5 (l1_5.length : Int) b0 y107 (y107.length : Int) 0 a1_0 a1_1 a1_2 a1_3 l1_4 l1_5 l1_6 l1_7 ((yae l1_5 b0).f0) ((yae l1_5 b0).f1) ((yae l1_5 b0).f2)) = some r := by first | (rw [hy107]; with_reducible exact H) | (have H2_ := (Option.bind_some _ _).symm.trans H; rw [hy107]; with_reducible exact H2_) | (have H2_ := (Option.bind_some _ _).symm.trans H; with_reducible exact H2_) | with_reducible exact H | (rw [hy107]; exact H) | exact H
            have Ny107 := yaa hy107; clear hy107; have H' := yaa H; clear H; have C6 := b9.out; have C7 := b6.out; have C8 := b4.out; have C9 := b7.out; obtain ⟨s4, s5, s6, s7, s8, s9, t0, t1⟩ := cc8_ b2.out; obtain ⟨t2, t3, t4, t5, t6, t7, t8, t9⟩ := cf8_ b2.out
            have q45 : (b0 : Int) ≤ ((l1_5.length : Int) : Int) := of_decide_eq_true (by first | (with_reducible assumption) | assumption)
            obtain ⟨i045, hi045, _, v3, _⟩ := info_parts info156; have hroom45 : l1_5.length ≤ c1_5 := HC1_5.out; have hC45 : Kd.C k156 _ (some ad103) l1_5.length l1_5 := HR1_5.out
            have hcut45 := cut_to (P := Try.prog) 59 156 .i64 Try.underlying59 hi045 (some ad103) l1_5.length c1_5 b0 (of_decide_eq_true (by first | (with_reducible assumption) | assumption)) q45 hroom45
            have hr45 := Kd.C_take (m := (b0 : Int).toNat) hC45 (by omega); have hy45 : y107.length = (b0 : Int).toNat := (by rw [Ny107.out, List.length_take]; omega)
            rw [← Ny107.out] at hr45
            rw [← hy45] at hcut45
            have HR110 := yaa hr45; have HC110 := yaa (show y107.length ≤ c1_5 from by omega); clear hr45 hC45 hroom45 hi045 v3; have KY45 := yaa hy45; clear hy45; replace q45 := eq_true q45
            go_wp2
            (try simp only [Act.put, List.setIfInBounds_toArray, List.set_cons_zero, List.set_cons_succ])
            go_loopg [46] kj16 (fun kq v46 w' => ∃ (b8 : Int), v46 = .int .i64 b8 ∧ Aside0 (impl_filesOk.l1 kq l1_5 (l1_5.length : Int) b0 y107 (y107.length : Int) b8 a1_0 a1_1 a1_2 a1_3 l1_4 l1_5 l1_6 l1_7 ((yae l1_5 b0).f0) ((yae l1_5 b0).f1) ((yae l1_5 b0).f2) = some r) ∧ Aside0 (kq ≤ kj16) ∧ Aside0 (w'.heap[d4]? = some (.cells #[(.slice A0_0 l0_0.length c0_0), .int .i64 a0_1, .int .i64 a0_2, .int .i64 a0_3, .int .i64 a0_4, .int .i64 a0_5, .int .i64 a0_6] 24 (0, 0))) ∧ Aside0 (w'.heap[d5]? = some (.cells #[.int .i64 a1_0, .int .i64 a1_1, .int .i64 a1_2, .int .i64 a1_3, (.slice A1_4 l1_4.length c1_4), (.slice (some ad103) l1_5.length c1_5), (.slice A1_6 l1_6.length c1_6), (.slice A1_7 l1_7.length c1_7)] 63 (0, 0))) ∧ Aside0 (w'.heap[e3]? = some (.cells #[.string ((yae l1_5 b0).f0), .int .i64 ((yae l1_5 b0).f1), (.slice r8 ((yae l1_5 b0).f2).length r9)] 156 (0, 0))) ∧ Aside0 (Below w.heap.size w w'))
            case atStart => exact ⟨(0), (by first | rfl | (simp; done) | (simp [*]; done)), H', ⟨Nat.le_refl _⟩, ⟨by exact upB b1.out⟩, ⟨by exact upB b2.out⟩, ⟨by exact upB b3.out⟩, ⟨by repeat (with_reducible first | exact HB.out | apply yac | apply yab | apply yad | refine yaf ?_ (Aside0.out ‹_›))⟩⟩
            case round =>
             clear H'; (try clear c1); (try clear p1); (try clear q1); (try clear hx1); (try clear c2); (try clear p2); (try clear c3); (try clear s1); (try clear c4); (try clear q4); (try clear c6); (try clear c7); (try clear c8); (try clear c10); (try clear p10); (try clear q10); (try clear hx10); (try clear c11); (try clear c14); (try clear r7); (try clear c15); (try clear c15b0); (try clear c16); (try clear c16b0); (try clear c19); (try clear c20); (try clear c23); (try clear c25); (try clear c26); (try clear c27); (try clear c29); (try clear c31); (try clear c32); (try clear c34); (try clear c36); (try clear c37); (try clear c39); (try clear c40); (try clear v1); (try clear c40b1); (try clear c41); (try clear v2); (try clear c41b1); (try clear c42); (try clear c43); (try clear q45); (try clear e4); (try clear e5); (try clear e6); (try clear e7); (try clear e8); (try clear e9); (try clear f3); (try clear f4); (try clear g3); (try clear g4); (try clear g5); (try clear g6); (try clear g7); (try clear g8); (try clear g9); (try clear l5); (try clear l6); (try clear l7); (try clear m1); (try clear m2); (try clear m3); (try clear m7); (try clear m8); (try clear m9); (try clear n0); (try clear n1); (try clear n2); (try clear n3); (try clear n4); (try clear o3); (try clear o4); (try clear o5); (try clear o9); (try clear p0); (try clear p3); (try clear p4); (try clear p5); (try clear p6); (try clear p7); (try clear p8); (try clear q9); (try clear r0); (try clear r1); (try clear s4); (try clear s5); (try clear s6); (try clear s7); (try clear s8); (try clear s9); (try clear t0); (try clear t1); (try clear h9); (try clear i0); (try clear i1); (try clear i2); (try clear i3); (try clear i4); (try clear i5); (try clear i6); (try clear j6); (try clear j7); (try clear j8); (try clear j9); (try clear k0); (try clear k2); (try clear k4); (try clear f5); (try clear f6); (try clear f7); (try clear f8); (try clear f9); (try clear g0); (try clear g1); (try clear g2); (try clear h0); (try clear h1); (try clear h2); (try clear h3); (try clear h4); (try clear h5); (try clear h6); (try clear l8); (try clear l9); (try clear m0); (try clear m4); (try clear m5); (try clear m6); (try clear n5); (try clear n6); (try clear n7); (try clear n8); (try clear n9); (try clear o0); (try clear o1); (try clear o2); (try clear o6); (try clear o7); (try clear o8); (try clear p9); (try clear q0); (try clear q2); (try clear q3); (try clear q5); (try clear q6); (try clear q7); (try clear q8); (try clear r2); (try clear r3); (try clear r4); (try clear t2); (try clear t3); (try clear t4); (try clear t5); (try clear t6); (try clear t7); (try clear t8); (try clear t9); (try clear i7); (try clear i8); (try clear i9); (try clear j0); (try clear j2); (try clear j3); (try clear j4); (try clear j5); (try clear k5); (try clear k6); (try clear k7); (try clear k8); (try clear k9); (try clear l2); (try clear l3); (try clear d6); (try clear d7); (try clear d8); (try clear p1); (try clear p10); (try clear p103); (try clear p2); (try clear q1); (try clear q10); (try clear q103); (try clear q45); obtain ⟨b8, rfl, HA, HK3, b1, b2, b3, HB⟩ := hrel
             cases gk with
             | zero => exact absurd HA.out (by simp [impl_filesOk.l1])
             | succ k3 =>
              have H := HA.out; clear HA
              simp only [impl_filesOk.l1] at H
              by_cases c46 : b8 < (y107.length : Int)
              ·
               rw [if_pos c46] at H
               have v4 : decide (b8 < (y107.length : Int)) = true := decide_eq_true c46; clear c46
               by_cases c47 : 0 ≤ b8
               ·
                rw [if_pos c47] at H
                replace c47 := decide_eq_true c47
                by_cases c48 : b8 < (y107.length : Int)
                ·
                 rw [if_pos c48] at H
                 replace c48 := decide_eq_true c48
                 by_cases c49 : ((yae l1_5 b0).f0).toList = ((yae y107 b8).f0).toList
                 ·
                  rw [if_pos c49] at H
                  have v5 := beq_iff_eq.mpr c49; have v6 := bne_eq_false_iff_eq.mpr c49; clear c49; obtain rfl := Option.some.inj H
                  have p111 : 0 ≤ (b8 : Int) := of_decide_eq_true (by first | (with_reducible assumption) | assumption)
                  have q111 : b8 < (y107.length : Int) := of_decide_eq_true (by first | (with_reducible assumption) | assumption)
                  obtain ⟨ad111, u0, u1, u2, d1, d2, d3, hl111_2, hi111_2⟩ := at_T156 HR110.out b8 p111 q111; obtain rfl : ad103 = ad111 := (by injection u2); replace d1 := (HB.out.cell (World.block_lt_of_cell? w _ d1)).trans d1; replace d2 := (HB.out.cell (World.block_lt_of_cell? w _ d2)).trans d2; replace d3 := (HB.out.cell (World.block_lt_of_cell? w _ d3)).trans d3; have HR111_2 := yaa hi111_2; have HC111_2 := yaa hl111_2; clear hi111_2 hl111_2; replace p111 := eq_true p111; replace q111 := eq_true q111
                  go_wp2_with (first | ((with_reducible refine gd_ 8 rfl ?_); (try (refine gate_guard (by rfl) ?_; dsimp only)); refine bx_ 8 rfl #[.string (⟨#[]⟩ : ByteArray), .int .i64 0, .slice none 0 0] 156 ?_; intro d9 hg w50 hbox hb; have h8 := yaa (hbox); have s0 := yaa ((by rw [hg]; exact (below_size (by repeat (with_reducible first | exact HB.out | apply yac | apply yab | apply yad | refine yaf ?_ (Aside0.out ‹_›)))) : w.heap.size ≤ d9)); replace HB := yaa (below_step (by repeat (with_reducible first | exact HB.out | apply yac | apply yab | apply yad | refine yaf ?_ (Aside0.out ‹_›))) hb); have v7 := s0; have c5 := yaa ((by rw [hg]; exact Nat.ne_of_lt (blk_lt (upB b1.out)) : d4 ≠ d9)); replace b1 := yaa (blk_below (upB b1.out) hb); have e0 := yaa c5.out.symm; have c9 := yaa ((by rw [hg]; exact Nat.ne_of_lt (blk_lt (upB b2.out)) : d5 ≠ d9)); replace b2 := yaa (blk_below (upB b2.out) hb); have e1 := yaa c9.out.symm; have d0 := yaa ((by rw [hg]; exact Nat.ne_of_lt (blk_lt (upB b3.out)) : e3 ≠ d9)); replace b3 := yaa (blk_below (upB b3.out) hb); have e2 := yaa d0.out.symm; clear hb hbox hg; have D2 := e0.out; have D3 := c5.out; have D4 := e1.out; have D5 := c9.out; have D6 := e2.out; have D7 := d0.out; obtain ⟨v8, v9, w0⟩ := cc3_ h8.out; obtain ⟨w1, w2, w3⟩ := cf3_ h8.out; have D8 := c0.out; have D9 := b5.out; have E0 := b7.out; have E1 := b4.out; obtain ⟨w6, w7, w8⟩ := cc3_ b3.out; obtain ⟨x0, x1⟩ := cf2_ b3.out; have x2 := blk_frozen b3.out 2))
                  go_ret
                  exact ⟨by first | rfl | (simp [*, errW_none, errW_some] <;> rfl), by repeat (with_reducible first | exact HB.out | apply yac | apply yab | apply yad | refine yaf ?_ (Aside0.out ‹_›))⟩
                 ·
                  rw [if_neg c49] at H
                  have v5 := beq_eq_false_iff_ne.mpr c49; have v6 := bne_iff_ne.mpr c49; have H' := yaa H; clear H
                  have p111 : 0 ≤ (b8 : Int) := of_decide_eq_true (by first | (with_reducible assumption) | assumption)
                  have q111 : b8 < (y107.length : Int) := of_decide_eq_true (by first | (with_reducible assumption) | assumption)
                  obtain ⟨ad111, u0, u1, u2, d1, d2, d3, hl111_2, hi111_2⟩ := at_T156 HR110.out b8 p111 q111; obtain rfl : ad103 = ad111 := (by injection u2); replace d1 := (HB.out.cell (World.block_lt_of_cell? w _ d1)).trans d1; replace d2 := (HB.out.cell (World.block_lt_of_cell? w _ d2)).trans d2; replace d3 := (HB.out.cell (World.block_lt_of_cell? w _ d3)).trans d3; have HR111_2 := yaa hi111_2; have HC111_2 := yaa hl111_2; clear hi111_2 hl111_2; replace p111 := eq_true p111; replace q111 := eq_true q111
                  go_wp2_with (first | ((with_reducible refine gd_ 8 rfl ?_); (try (refine gate_guard (by rfl) ?_; dsimp only)); refine bx_ 8 rfl #[.string (⟨#[]⟩ : ByteArray), .int .i64 0, .slice none 0 0] 156 ?_; intro d9 hg w58 hbox hb; have h8 := yaa (hbox); have s0 := yaa ((by rw [hg]; exact (below_size (by repeat (with_reducible first | exact HB.out | apply yac | apply yab | apply yad | refine yaf ?_ (Aside0.out ‹_›)))) : w.heap.size ≤ d9)); replace HB := yaa (below_step (by repeat (with_reducible first | exact HB.out | apply yac | apply yab | apply yad | refine yaf ?_ (Aside0.out ‹_›))) hb); have v7 := s0; have c5 := yaa ((by rw [hg]; exact Nat.ne_of_lt (blk_lt (upB b1.out)) : d4 ≠ d9)); replace b1 := yaa (blk_below (upB b1.out) hb); have e0 := yaa c5.out.symm; have c9 := yaa ((by rw [hg]; exact Nat.ne_of_lt (blk_lt (upB b2.out)) : d5 ≠ d9)); replace b2 := yaa (blk_below (upB b2.out) hb); have e1 := yaa c9.out.symm; have d0 := yaa ((by rw [hg]; exact Nat.ne_of_lt (blk_lt (upB b3.out)) : e3 ≠ d9)); replace b3 := yaa (blk_below (upB b3.out) hb); have e2 := yaa d0.out.symm; clear hb hbox hg; have E2 := e0.out; have E3 := c5.out; have E4 := e1.out; have E5 := c9.out; have E6 := e2.out; have E7 := d0.out; obtain ⟨x3, x4, x6⟩ := cc3_ h8.out; obtain ⟨x7, x8, x9⟩ := cf3_ h8.out; have E8 := c0.out; have E9 := b5.out; have F0 := b7.out; have F1 := b4.out; obtain ⟨z0, z1, z2⟩ := cc3_ b3.out; obtain ⟨z3, z4⟩ := cf2_ b3.out; have z5 := blk_frozen b3.out 2))
                  go_roundg k3
                  case measure => have := HK1.out; have := HJ16.out; have := HK3.out; omega
                  case rel => exact ⟨(wrap64 (b8 + 1)), (by first | rfl | (simp; done) | (simp [*]; done)), H', ⟨by have := HK1.out; have := HJ16.out; have := HK3.out; omega⟩, ⟨by repeat (with_reducible first | exact b1.out | refine oneB ?_ | refine blk_far ?_ c5.out _)⟩, ⟨by repeat (with_reducible first | exact b2.out | refine oneB ?_ | refine blk_far ?_ c9.out _)⟩, ⟨by repeat (with_reducible first | exact b3.out | refine oneB ?_ | refine blk_far ?_ d0.out _)⟩, ⟨by repeat (with_reducible first | exact HB.out | apply yac | apply yab | apply yad | refine yaf ?_ (Aside0.out ‹_›))⟩⟩
                ·
                 rw [if_neg c48] at H
                 exact absurd H (by simp)
               ·
                rw [if_neg c47] at H
                exact absurd H (by simp)
              ·
               rw [if_neg c46] at H
               have v4 : decide (b8 < (y107.length : Int)) = false := decide_eq_false c46; clear c46; have H' := yaa H; clear H
               go_wp2
               go_roundg k3
               case measure => have := HK1.out; have := HJ16.out; have := HK3.out; omega
               case rel => exact ⟨(wrap64 (b0 + 1)), (by first | rfl | (simp; done) | (simp [*]; done)), H', ⟨by have := HK1.out; have := HJ16.out; have := HK3.out; omega⟩, ⟨by exact upB b1.out⟩, ⟨by exact upB b2.out⟩, ⟨by repeat (with_reducible first | exact HB.out | apply yac | apply yab | apply yad | refine yaf ?_ (Aside0.out ‹_›))⟩⟩
           ·
            rw [if_neg c41] at H
            exact absurd H (by simp)
          ·
           rw [if_neg c40] at H
           exact absurd H (by simp)
      ·
       rw [if_neg c16] at H
       exact absurd H (by simp)
     ·
      rw [if_neg c15] at H
      exact absurd H (by simp)
    ·
     rw [if_neg c14] at H
     have r7 : decide (b0 < (l1_5.length : Int)) = false := decide_eq_false c14; clear c14; obtain rfl := Option.some.inj H
     go_wp2
     go_ret
     exact ⟨by first | rfl | (simp [*, errW_none, errW_some] <;> rfl), by repeat (with_reducible first | exact HB.out | apply yac | apply yab | apply yad | refine yaf ?_ (Aside0.out ‹_›))⟩
end
section
open Go.Proofs.YtgpkkkmapgnhkaaW.PrintWords.Aside0 renaming mk → yaa

def impl_askedOk.l0 : Nat → List ByteArray → Int → Int → Option (Bool)
 | 0, _, _, _ => none
 | k + 1, x10, x11, x12 => if x12 < x11 then (if 0 ≤ x12 then (if x12 < (x10.length : Int) then ((impl_nameOk.f k (rdOf ByteArray.empty x10 x12)).bind fun t103 => (if t103 = true then (impl_askedOk.l0 k x10 x11 (wrap64 (x12 + 1))) else (some false))) else (none)) else (none)) else (some true)
def impl_askedOk.f (k : Nat) (a0_0 : Int) (a0_1 : Int) (a0_2 : Int) (a0_3 : Int) (l0_4 : List (S124)) (l0_5 : List (S156)) (l0_6 : List ByteArray) (l0_7 : List (S158)) : Option (Bool) := if (l0_6.length : Int) > 60 then (some false) else (impl_askedOk.l0 k l0_6 (l0_6.length : Int) 0)
set_option maxHeartbeats 8000000 in
set_option maxRecDepth 100000 in
theorem impl_askedOk.calls (k : Nat) (a0_0 : Int) (a0_1 : Int) (a0_2 : Int) (a0_3 : Int) (A0_4 : Option Addr) (c0_4 : Nat) (l0_4 : List (S124)) (A0_5 : Option Addr) (c0_5 : Nat) (l0_5 : List (S156)) (A0_6 : Option Addr) (c0_6 : Nat) (l0_6 : List ByteArray) (A0_7 : Option Addr) (c0_7 : Nat) (l0_7 : List (S158)) (r : Bool) (w : World) (hr0_4 : Kd.C k124 w A0_4 l0_4.length l0_4) (hc0_4 : l0_4.length ≤ c0_4) (hr0_5 : Kd.C k156 w A0_5 l0_5.length l0_5) (hc0_5 : l0_5.length ≤ c0_5) (hr0_6 : Kd.C Kd.string w A0_6 l0_6.length l0_6) (hc0_6 : l0_6.length ≤ c0_6) (hr0_7 : Kd.C k158 w A0_7 l0_7.length l0_7) (hc0_7 : l0_7.length ≤ c0_7) (h : impl_askedOk.f k a0_0 a0_1 a0_2 a0_3 l0_4 l0_5 l0_6 l0_7 = some r) :
  Calls Try.prog 90 #[.agg #[.int .i64 a0_0, .int .i64 a0_1, .int .i64 a0_2, .int .i64 a0_3, .slice A0_4 l0_4.length c0_4, .slice A0_5 l0_5.length c0_5, .slice A0_6 l0_6.length c0_6, .slice A0_7 l0_7.length c0_7]] w fun e w' => e = .returned (.bool r) ∧ Below w.heap.size w w' := by
 have hu63 := Try.underlying63; have HR0_4 := yaa hr0_4; have HC0_4 := yaa hc0_4; clear hr0_4 hc0_4; have HR0_5 := yaa hr0_5; have HC0_5 := yaa hc0_5; clear hr0_5 hc0_5; have HR0_6 := yaa hr0_6; have HC0_6 := yaa hc0_6; clear hr0_6 hc0_6; have HR0_7 := yaa hr0_7; have HC0_7 := yaa hc0_7; clear hr0_7 hc0_7; have HB := yaa (Below.refl w.heap.size w); have H : (if (l0_6.length : Int) > 60 then (some false) else (impl_askedOk.l0 k l0_6 (l0_6.length : Int) 0)) = some r := h; clear h
 by_cases c2 : (l0_6.length : Int) > 60
 ·
  rw [if_pos c2] at H
  have f0 : decide (60 < (l0_6.length : Int)) = true := decide_eq_true c2; have f1 : decide (60 < l0_6.length) = true := decide_eq_true (by omega); clear c2; obtain rfl := Option.some.inj H
  go_enter Try.func90, Try.ntmps90
  go_wp2_with (first | ((with_reducible refine gd_ 1 rfl ?_); refine bx_ 1 rfl #[.int .i64 a0_0, .int .i64 a0_1, .int .i64 a0_2, .int .i64 a0_3, .slice A0_4 l0_4.length c0_4, .slice A0_5 l0_5.length c0_5, .slice A0_6 l0_6.length c0_6, .slice A0_7 l0_7.length c0_7] 63 ?_; intro b1 hg w3 hbox hb; have b0 := yaa (hbox); have b2 := yaa ((by rw [hg]; exact (below_size (upH HB.out)) : w.heap.size ≤ b1)); replace HB := yaa (below_step (upH HB.out) hb); have f2 := b2; clear hb hbox hg; obtain ⟨b3, b4, b5, b6, b7, b8, b9, c0⟩ := cc8_ b0.out; obtain ⟨c1, c3, c4, c5, c6, d0, d1⟩ := cf7_ b0.out; have d2 := blk_frozen b0.out 7))
  go_ret
  exact ⟨by first | rfl | (simp [*, errW_none, errW_some] <;> rfl), by repeat (with_reducible first | exact HB.out | apply below_alloc | apply pw_below_drewN | apply below_drew1 | refine below_set ?_ (Aside0.out ‹_›))⟩
 ·
  rw [if_neg c2] at H
  have f0 : decide (60 < (l0_6.length : Int)) = false := decide_eq_false c2; have f1 : decide (60 < l0_6.length) = false := decide_eq_false (by omega); clear c2; have H' := yaa H; clear H
  go_enter Try.func90, Try.ntmps90
  go_wp2_with (first | ((with_reducible refine gd_ 1 rfl ?_); refine bx_ 1 rfl #[.int .i64 a0_0, .int .i64 a0_1, .int .i64 a0_2, .int .i64 a0_3, .slice A0_4 l0_4.length c0_4, .slice A0_5 l0_5.length c0_5, .slice A0_6 l0_6.length c0_6, .slice A0_7 l0_7.length c0_7] 63 ?_; intro b1 hg w5 hbox hb; have b0 := yaa (hbox); have b2 := yaa ((by rw [hg]; exact (below_size (upH HB.out)) : w.heap.size ≤ b1)); replace HB := yaa (below_step (upH HB.out) hb); have f2 := b2; clear hb hbox hg; obtain ⟨d3, d4, d5, d6, d7, d8, d9, e0⟩ := cc8_ b0.out; obtain ⟨e1, e2, e3, e4, e5, e6, e7⟩ := cf7_ b0.out; have e8 := blk_frozen b0.out 7))
  (try simp only [Act.put, List.setIfInBounds_toArray, List.set_cons_zero, List.set_cons_succ])
  go_loopg [12] k (fun kq v12 w' => ∃ (a8 : Int), v12 = .int .i64 a8 ∧ Aside0 (impl_askedOk.l0 kq l0_6 (l0_6.length : Int) a8 = some r) ∧ Aside0 (kq ≤ k) ∧ Aside0 (w'.heap[b1]? = some (.cells #[.int .i64 a0_0, .int .i64 a0_1, .int .i64 a0_2, .int .i64 a0_3, (.slice A0_4 l0_4.length c0_4), (.slice A0_5 l0_5.length c0_5), (.slice A0_6 l0_6.length c0_6), (.slice A0_7 l0_7.length c0_7)] 63 (0, 0))) ∧ Aside0 (Below w.heap.size w w'))
  case atStart => exact ⟨(0), (by first | rfl | (simp; done) | (simp [*]; done)), H', ⟨Nat.le_refl _⟩, ⟨by exact upB b0.out⟩, ⟨by repeat (with_reducible first | exact HB.out | apply below_alloc | apply pw_below_drewN | apply below_drew1 | refine below_set ?_ (Aside0.out ‹_›))⟩⟩
  case round =>
   clear H'; (try clear c2); (try clear f0); (try clear f1); (try clear p2); (try clear b3); (try clear b4); (try clear b5); (try clear b6); (try clear b7); (try clear b8); (try clear b9); (try clear c0); (try clear d3); (try clear d4); (try clear d5); (try clear d6); (try clear d7); (try clear d8); (try clear d9); (try clear e0); (try clear c1); (try clear c3); (try clear c4); (try clear c5); (try clear c6); (try clear d0); (try clear d1); (try clear d2); (try clear e1); (try clear e2); (try clear e3); (try clear e4); (try clear e5); (try clear e6); (try clear e7); (try clear e8); obtain ⟨a8, rfl, HA, HK1, b0, HB⟩ := hrel
   cases gk with
   | zero => exact absurd HA.out (by simp [impl_askedOk.l0])
   | succ k1 =>
    have H := HA.out; clear HA
    simp only [impl_askedOk.l0] at H
    by_cases c7 : a8 < (l0_6.length : Int)
    ·
     rw [if_pos c7] at H
     have f5 : decide (a8 < (l0_6.length : Int)) = true := decide_eq_true c7; clear c7
     by_cases c8 : 0 ≤ a8
     ·
      rw [if_pos c8] at H
      replace c8 := decide_eq_true c8
      by_cases c9 : a8 < (l0_6.length : Int)
      ·
       rw [if_pos c9] at H
       replace c9 := decide_eq_true c9; obtain ⟨f6, A10, H⟩ := bindA H; (try dsimp only at H)
       by_cases c11 : f6 = true
       ·
        subst c11
        rw [if_pos rfl] at H
        have H' := yaa H; clear H
        have p102 : 0 ≤ (a8 : Int) := of_decide_eq_true (by first | (with_reducible assumption) | assumption)
        have q102 : a8 < (l0_6.length : Int) := of_decide_eq_true (by first | (with_reducible assumption) | assumption)
        obtain ⟨ad102, e9, a9⟩ := Kd.at_string HR0_6.out a8 p102 q102
        cases e9
        replace a9 := (HB.out.cell (World.block_lt_of_cell? w _ a9)).trans a9; replace p102 := eq_true p102; replace q102 := eq_true q102
        go_wp2_with (first | ((with_reducible refine gc_ 73 rfl ?_); refine gl_ (some 17) rfl Try.func73 #[.string (rdOf ByteArray.empty l0_6 a8)] ?_; (with_reducible refine (impl_nameOk.calls k1 (rdOf ByteArray.empty l0_6 a8) true _ A10.out).mono ?_); rintro e w' ⟨rfl, ⟨nd, rfl⟩⟩; refine ⟨_, rfl, ?_⟩))
        go_roundg k1
        case measure => have := HK1.out; omega
        case rel => exact ⟨(wrap64 (a8 + 1)), (by first | rfl | (simp; done) | (simp [*]; done)), H', ⟨by have := HK1.out; omega⟩, ⟨by exact upB b0.out⟩, ⟨by repeat (with_reducible first | exact HB.out | apply below_alloc | apply pw_below_drewN | apply below_drew1 | refine below_set ?_ (Aside0.out ‹_›))⟩⟩
       ·
        replace c11 := Bool.eq_false_iff.mpr c11
        subst c11
        rw [if_neg (show ¬ (false = true) by decide)] at H
        obtain rfl := Option.some.inj H
        have p102 : 0 ≤ (a8 : Int) := of_decide_eq_true (by first | (with_reducible assumption) | assumption)
        have q102 : a8 < (l0_6.length : Int) := of_decide_eq_true (by first | (with_reducible assumption) | assumption)
        obtain ⟨ad102, e9, a9⟩ := Kd.at_string HR0_6.out a8 p102 q102
        cases e9
        replace a9 := (HB.out.cell (World.block_lt_of_cell? w _ a9)).trans a9; replace p102 := eq_true p102; replace q102 := eq_true q102
        go_wp2_with (first | ((with_reducible refine gc_ 73 rfl ?_); refine gl_ (some 17) rfl Try.func73 #[.string (rdOf ByteArray.empty l0_6 a8)] ?_; (with_reducible refine (impl_nameOk.calls k1 (rdOf ByteArray.empty l0_6 a8) false _ A10.out).mono ?_); rintro e w' ⟨rfl, ⟨nd, rfl⟩⟩; refine ⟨_, rfl, ?_⟩))
        go_ret
        exact ⟨by first | rfl | (simp [*, errW_none, errW_some] <;> rfl), by repeat (with_reducible first | exact HB.out | apply below_alloc | apply pw_below_drewN | apply below_drew1 | refine below_set ?_ (Aside0.out ‹_›))⟩
      ·
       rw [if_neg c9] at H
       exact absurd H (by simp)
     ·
      rw [if_neg c8] at H
      exact absurd H (by simp)
    ·
     rw [if_neg c7] at H
     have f5 : decide (a8 < (l0_6.length : Int)) = false := decide_eq_false c7; clear c7; obtain rfl := Option.some.inj H
     go_wp2
     go_ret
     exact ⟨by first | rfl | (simp [*, errW_none, errW_some] <;> rfl), by repeat (with_reducible first | exact HB.out | apply below_alloc | apply pw_below_drewN | apply below_drew1 | refine below_set ?_ (Aside0.out ‹_›))⟩
end
section
def impl_codeOk.f (a0 : Int) : Option (Bool) := if a0 = 200 then (some true) else (if a0 = 400 then (some true) else (if a0 = 403 then (some true) else (if a0 = 413 then (some true) else (if a0 = 415 then (some true) else (if a0 = 422 then (some true) else (if a0 = 429 then (some true) else (if a0 = 502 then (some true) else (if a0 = 503 then (some true) else (if a0 = 504 then (some true) else (some false))))))))))
set_option maxHeartbeats 8000000 in
set_option maxRecDepth 100000 in
theorem impl_codeOk.calls (a0 : Int) (r : Bool) (w : World) (h : impl_codeOk.f a0 = some r) :
  Calls Try.prog 129 #[.int .i64 a0] w fun e w' => e = .returned (.bool r) ∧ Drawn0 w w' := by
 have H : (if a0 = 200 then (some true) else (if a0 = 400 then (some true) else (if a0 = 403 then (some true) else (if a0 = 413 then (some true) else (if a0 = 415 then (some true) else (if a0 = 422 then (some true) else (if a0 = 429 then (some true) else (if a0 = 502 then (some true) else (if a0 = 503 then (some true) else (if a0 = 504 then (some true) else (some false))))))))))) = some r := h; clear h
 by_cases c2 : a0 = 200
 ·
  rw [if_pos c2] at H
  have a5 := beq_iff_eq.mpr c2; have a6 := bne_eq_false_iff_eq.mpr c2; clear c2; obtain rfl := Option.some.inj H
  go_enter Try.func129, Try.ntmps129
  go_wp2
  go_ret
  exact ⟨by first | rfl | (simp; done) | (simp [*]; done), by repeat (first | exact Drawn0.refl _ | apply Drawn0.step)⟩
 ·
  rw [if_neg c2] at H
  have a5 := beq_eq_false_iff_ne.mpr c2; have a6 := bne_iff_ne.mpr c2
  by_cases c3 : a0 = 400
  ·
   rw [if_pos c3] at H
   have a7 := beq_iff_eq.mpr c3; have a8 := bne_eq_false_iff_eq.mpr c3; clear c3; obtain rfl := Option.some.inj H
   go_enter Try.func129, Try.ntmps129
   go_wp2
   go_ret
   exact ⟨by first | rfl | (simp; done) | (simp [*]; done), by repeat (first | exact Drawn0.refl _ | apply Drawn0.step)⟩
  ·
   rw [if_neg c3] at H
   have a7 := beq_eq_false_iff_ne.mpr c3; have a8 := bne_iff_ne.mpr c3
   by_cases c4 : a0 = 403
   ·
    rw [if_pos c4] at H
    have a9 := beq_iff_eq.mpr c4; have b0 := bne_eq_false_iff_eq.mpr c4; clear c4; obtain rfl := Option.some.inj H
    go_enter Try.func129, Try.ntmps129
    go_wp2
    go_ret
    exact ⟨by first | rfl | (simp; done) | (simp [*]; done), by repeat (first | exact Drawn0.refl _ | apply Drawn0.step)⟩
   ·
    rw [if_neg c4] at H
    have a9 := beq_eq_false_iff_ne.mpr c4; have b0 := bne_iff_ne.mpr c4
    by_cases c5 : a0 = 413
    ·
     rw [if_pos c5] at H
     have b1 := beq_iff_eq.mpr c5; have b2 := bne_eq_false_iff_eq.mpr c5; clear c5; obtain rfl := Option.some.inj H
     go_enter Try.func129, Try.ntmps129
     go_wp2
     go_ret
     exact ⟨by first | rfl | (simp; done) | (simp [*]; done), by repeat (first | exact Drawn0.refl _ | apply Drawn0.step)⟩
    ·
     rw [if_neg c5] at H
     have b1 := beq_eq_false_iff_ne.mpr c5; have b2 := bne_iff_ne.mpr c5
     by_cases c6 : a0 = 415
     ·
      rw [if_pos c6] at H
      have b3 := beq_iff_eq.mpr c6; have b4 := bne_eq_false_iff_eq.mpr c6; clear c6; obtain rfl := Option.some.inj H
      go_enter Try.func129, Try.ntmps129
      go_wp2
      go_ret
      exact ⟨by first | rfl | (simp; done) | (simp [*]; done), by repeat (first | exact Drawn0.refl _ | apply Drawn0.step)⟩
     ·
      rw [if_neg c6] at H
      have b3 := beq_eq_false_iff_ne.mpr c6; have b4 := bne_iff_ne.mpr c6
      by_cases c7 : a0 = 422
      ·
       rw [if_pos c7] at H
       have b5 := beq_iff_eq.mpr c7; have b6 := bne_eq_false_iff_eq.mpr c7; clear c7; obtain rfl := Option.some.inj H
       go_enter Try.func129, Try.ntmps129
       go_wp2
       go_ret
       exact ⟨by first | rfl | (simp; done) | (simp [*]; done), by repeat (first | exact Drawn0.refl _ | apply Drawn0.step)⟩
      ·
       rw [if_neg c7] at H
       have b5 := beq_eq_false_iff_ne.mpr c7; have b6 := bne_iff_ne.mpr c7
       by_cases c8 : a0 = 429
       ·
        rw [if_pos c8] at H
        have b7 := beq_iff_eq.mpr c8; have b8 := bne_eq_false_iff_eq.mpr c8; clear c8; obtain rfl := Option.some.inj H
        go_enter Try.func129, Try.ntmps129
        go_wp2
        go_ret
        exact ⟨by first | rfl | (simp; done) | (simp [*]; done), by repeat (first | exact Drawn0.refl _ | apply Drawn0.step)⟩
       ·
        rw [if_neg c8] at H
        have b7 := beq_eq_false_iff_ne.mpr c8; have b8 := bne_iff_ne.mpr c8
        by_cases c9 : a0 = 502
        ·
         rw [if_pos c9] at H
         have b9 := beq_iff_eq.mpr c9; have c0 := bne_eq_false_iff_eq.mpr c9; clear c9; obtain rfl := Option.some.inj H
         go_enter Try.func129, Try.ntmps129
         go_wp2
         go_ret
         exact ⟨by first | rfl | (simp; done) | (simp [*]; done), by repeat (first | exact Drawn0.refl _ | apply Drawn0.step)⟩
        ·
         rw [if_neg c9] at H
         have b9 := beq_eq_false_iff_ne.mpr c9; have c0 := bne_iff_ne.mpr c9
         by_cases c10 : a0 = 503
         ·
          rw [if_pos c10] at H
          have a1 := beq_iff_eq.mpr c10; have a2 := bne_eq_false_iff_eq.mpr c10; clear c10; obtain rfl := Option.some.inj H
          go_enter Try.func129, Try.ntmps129
          go_wp2
          go_ret
          exact ⟨by first | rfl | (simp; done) | (simp [*]; done), by repeat (first | exact Drawn0.refl _ | apply Drawn0.step)⟩
         ·
          rw [if_neg c10] at H
          have a1 := beq_eq_false_iff_ne.mpr c10; have a2 := bne_iff_ne.mpr c10
          by_cases c11 : a0 = 504
          ·
           rw [if_pos c11] at H
           have a3 := beq_iff_eq.mpr c11; have a4 := bne_eq_false_iff_eq.mpr c11; clear c11; obtain rfl := Option.some.inj H
           go_enter Try.func129, Try.ntmps129
           go_wp2
           go_ret
           exact ⟨by first | rfl | (simp; done) | (simp [*]; done), by repeat (first | exact Drawn0.refl _ | apply Drawn0.step)⟩
          ·
           rw [if_neg c11] at H
           have a3 := beq_eq_false_iff_ne.mpr c11; have a4 := bne_iff_ne.mpr c11; obtain rfl := Option.some.inj H
           go_enter Try.func129, Try.ntmps129
           go_wp2
           go_ret
           exact ⟨by first | rfl | (simp; done) | (simp [*]; done), by repeat (first | exact Drawn0.refl _ | apply Drawn0.step)⟩
end
section
open Go.Proofs.Ytgpkkkmapgnhkaa.X renaming rd_T158 → yaa
open Go.Proofs.YtgpkkkmapgnhkaaW.PrintWords.Aside0 renaming mk → yab
open Go.Proofs.YtgpkkkmapgnhkaaW.PrintWords renaming pw_below_drewN → yac

mutual
def impl_outsOk.l0 : Nat → List (S158) → Int → Int → Int → Int → Int → Int → List (S124) → List (S156) → List ByteArray → List (S158) → Option (Bool)
 | 0, _, _, _, _, _, _, _, _, _, _, _ => none
 | k + 1, x10, x11, x12, x102000, x102001, x102002, x102003, x102004, x102005, x102006, x102007 => if x12 < x11 then (if 0 ≤ x12 then (if x12 < (x10.length : Int) then ((impl_within.f ((rd_T158 x10 x12).f0) 0 (wrap64 (x102003 - 1))).bind fun t104 => (if t104 = true then ((impl_codeOk.f ((rd_T158 x10 x12).f1)).bind fun t105 => (if t105 = true then (impl_outsOk.j1 k x10 x11 x12 (decide ((((rd_T158 x10 x12).f2).length : Int) > 220)) x102000 x102001 x102002 x102003 x102004 x102005 x102006 x102007 ((rd_T158 x10 x12).f0) ((rd_T158 x10 x12).f1) ((rd_T158 x10 x12).f2)) else (impl_outsOk.j1 k x10 x11 x12 true x102000 x102001 x102002 x102003 x102004 x102005 x102006 x102007 ((rd_T158 x10 x12).f0) ((rd_T158 x10 x12).f1) ((rd_T158 x10 x12).f2)))) else (impl_outsOk.j1 k x10 x11 x12 true x102000 x102001 x102002 x102003 x102004 x102005 x102006 x102007 ((rd_T158 x10 x12).f0) ((rd_T158 x10 x12).f1) ((rd_T158 x10 x12).f2)))) else (none)) else (none)) else (some true)
def impl_outsOk.j1 : Nat → List (S158) → Int → Int → Bool → Int → Int → Int → Int → List (S124) → List (S156) → List ByteArray → List (S158) → Int → Int → List Int → Option (Bool)
 | 0, _, _, _, _, _, _, _, _, _, _, _, _, _, _, _ => none
 | k + 1, x10, x11, x12, x34, x102000, x102001, x102002, x102003, x102004, x102005, x102006, x102007, x104000, x104001, x104002 => if x34 = true then (some false) else (if ((decide ((x104002.length : Int) > 0)) != (x104001 == 200)) = true then (some false) else (impl_outsOk.l0 k x10 x11 (wrap64 (x12 + 1)) x102000 x102001 x102002 x102003 x102004 x102005 x102006 x102007))
end
def impl_outsOk.f (k : Nat) (a0_0 : Int) (a0_1 : Int) (a0_2 : Int) (a0_3 : Int) (l0_4 : List (S124)) (l0_5 : List (S156)) (l0_6 : List ByteArray) (l0_7 : List (S158)) : Option (Bool) := if (l0_7.length : Int) > 60 then (some false) else (impl_outsOk.l0 k l0_7 (l0_7.length : Int) 0 a0_0 a0_1 a0_2 a0_3 l0_4 l0_5 l0_6 l0_7)
set_option maxHeartbeats 8000000 in
set_option maxRecDepth 100000 in
theorem impl_outsOk.calls (k : Nat) (a0_0 : Int) (a0_1 : Int) (a0_2 : Int) (a0_3 : Int) (A0_4 : Option Addr) (c0_4 : Nat) (l0_4 : List (S124)) (A0_5 : Option Addr) (c0_5 : Nat) (l0_5 : List (S156)) (A0_6 : Option Addr) (c0_6 : Nat) (l0_6 : List ByteArray) (A0_7 : Option Addr) (c0_7 : Nat) (l0_7 : List (S158)) (r : Bool) (w : World) (hr0_4 : Kd.C k124 w A0_4 l0_4.length l0_4) (hc0_4 : l0_4.length ≤ c0_4) (hr0_5 : Kd.C k156 w A0_5 l0_5.length l0_5) (hc0_5 : l0_5.length ≤ c0_5) (hr0_6 : Kd.C Kd.string w A0_6 l0_6.length l0_6) (hc0_6 : l0_6.length ≤ c0_6) (hr0_7 : Kd.C k158 w A0_7 l0_7.length l0_7) (hc0_7 : l0_7.length ≤ c0_7) (h : impl_outsOk.f k a0_0 a0_1 a0_2 a0_3 l0_4 l0_5 l0_6 l0_7 = some r) :
  Calls Try.prog 91 #[.agg #[.int .i64 a0_0, .int .i64 a0_1, .int .i64 a0_2, .int .i64 a0_3, .slice A0_4 l0_4.length c0_4, .slice A0_5 l0_5.length c0_5, .slice A0_6 l0_6.length c0_6, .slice A0_7 l0_7.length c0_7]] w fun e w' => e = .returned (.bool r) ∧ Below w.heap.size w w' := by
 have hu63 := Try.underlying63; have hu158 := Try.underlying158; have HR0_4 := yab hr0_4; have HC0_4 := yab hc0_4; clear hr0_4 hc0_4; have HR0_5 := yab hr0_5; have HC0_5 := yab hc0_5; clear hr0_5 hc0_5; have HR0_6 := yab hr0_6; have HC0_6 := yab hc0_6; clear hr0_6 hc0_6; have HR0_7 := yab hr0_7; have HC0_7 := yab hc0_7; clear hr0_7 hc0_7; have HB := yab (Below.refl w.heap.size w); have H : (if (l0_7.length : Int) > 60 then (some false) else (impl_outsOk.l0 k l0_7 (l0_7.length : Int) 0 a0_0 a0_1 a0_2 a0_3 l0_4 l0_5 l0_6 l0_7)) = some r := h; clear h
 by_cases c2 : (l0_7.length : Int) > 60
 ·
  rw [if_pos c2] at H
  have n9 : decide (60 < (l0_7.length : Int)) = true := decide_eq_true c2; have o0 : decide (60 < l0_7.length) = true := decide_eq_true (by omega); clear c2; obtain rfl := Option.some.inj H
  go_enter Try.func91, Try.ntmps91
  go_wp2_with (first | ((with_reducible refine gd_ 1 rfl ?_); (try (refine gate_guard (by rfl) ?_; dsimp only)); refine bx_ 1 rfl #[.int .i64 a0_0, .int .i64 a0_1, .int .i64 a0_2, .int .i64 a0_3, .slice A0_4 l0_4.length c0_4, .slice A0_5 l0_5.length c0_5, .slice A0_6 l0_6.length c0_6, .slice A0_7 l0_7.length c0_7] 63 ?_; intro b6 hg w3 hbox hb; have b0 := yab (hbox); have b8 := yab ((by rw [hg]; exact (below_size (upH HB.out)) : w.heap.size ≤ b6)); replace HB := yab (below_step (upH HB.out) hb); have o3 := b8; clear hb hbox hg; obtain ⟨b9, c0, c3, c4, c5, d0, d1, d2⟩ := cc8_ b0.out; obtain ⟨d3, d4, d5, d6, d7, d8, d9⟩ := cf7_ b0.out; have e0 := blk_frozen b0.out 7))
  go_ret
  exact ⟨by first | rfl | (simp [*, errW_none, errW_some] <;> rfl), by repeat (with_reducible first | exact HB.out | apply below_alloc | apply yac | apply below_drew1 | refine below_set ?_ (Aside0.out ‹_›))⟩
 ·
  rw [if_neg c2] at H
  have n9 : decide (60 < (l0_7.length : Int)) = false := decide_eq_false c2; have o0 : decide (60 < l0_7.length) = false := decide_eq_false (by omega); clear c2; have H' := yab H; clear H
  go_enter Try.func91, Try.ntmps91
  go_wp2_with (first | ((with_reducible refine gd_ 1 rfl ?_); (try (refine gate_guard (by rfl) ?_; dsimp only)); refine bx_ 1 rfl #[.int .i64 a0_0, .int .i64 a0_1, .int .i64 a0_2, .int .i64 a0_3, .slice A0_4 l0_4.length c0_4, .slice A0_5 l0_5.length c0_5, .slice A0_6 l0_6.length c0_6, .slice A0_7 l0_7.length c0_7] 63 ?_; intro b6 hg w5 hbox hb; have b0 := yab (hbox); have b8 := yab ((by rw [hg]; exact (below_size (upH HB.out)) : w.heap.size ≤ b6)); replace HB := yab (below_step (upH HB.out) hb); have o3 := b8; clear hb hbox hg; obtain ⟨e1, e2, e3, e4, e5, e6, e7, e8⟩ := cc8_ b0.out; obtain ⟨e9, f3, f4, f5, f6, f7, f8⟩ := cf7_ b0.out; have f9 := blk_frozen b0.out 7))
  (try simp only [Act.put, List.setIfInBounds_toArray, List.set_cons_zero, List.set_cons_succ])
  go_loopg [12] k (fun kq v12 w' => ∃ (a8 : Int), v12 = .int .i64 a8 ∧ Aside0 (impl_outsOk.l0 kq l0_7 (l0_7.length : Int) a8 a0_0 a0_1 a0_2 a0_3 l0_4 l0_5 l0_6 l0_7 = some r) ∧ Aside0 (kq ≤ k) ∧ Aside0 (w'.heap[b6]? = some (.cells #[.int .i64 a0_0, .int .i64 a0_1, .int .i64 a0_2, .int .i64 a0_3, (.slice A0_4 l0_4.length c0_4), (.slice A0_5 l0_5.length c0_5), (.slice A0_6 l0_6.length c0_6), (.slice A0_7 l0_7.length c0_7)] 63 (0, 0))) ∧ Aside0 (Below w.heap.size w w'))
  case atStart => exact ⟨(0), (by first | rfl | (simp; done) | (simp [*]; done)), H', ⟨Nat.le_refl _⟩, ⟨by exact upB b0.out⟩, ⟨by repeat (with_reducible first | exact HB.out | apply below_alloc | apply yac | apply below_drew1 | refine below_set ?_ (Aside0.out ‹_›))⟩⟩
  case round =>
   clear H'; (try clear c2); (try clear n9); (try clear o0); (try clear p2); (try clear b9); (try clear c0); (try clear c3); (try clear c4); (try clear c5); (try clear d0); (try clear d1); (try clear d2); (try clear e1); (try clear e2); (try clear e3); (try clear e4); (try clear e5); (try clear e6); (try clear e7); (try clear e8); (try clear d3); (try clear d4); (try clear d5); (try clear d6); (try clear d7); (try clear d8); (try clear d9); (try clear e0); (try clear e9); (try clear f3); (try clear f4); (try clear f5); (try clear f6); (try clear f7); (try clear f8); (try clear f9); obtain ⟨a8, rfl, HA, HK1, b0, HB⟩ := hrel
   cases gk with
   | zero => exact absurd HA.out (by simp [impl_outsOk.l0])
   | succ k1 =>
    have H := HA.out; clear HA
    simp only [impl_outsOk.l0] at H
    by_cases c7 : a8 < (l0_7.length : Int)
    ·
     rw [if_pos c7] at H
     have o4 : decide (a8 < (l0_7.length : Int)) = true := decide_eq_true c7; clear c7
     by_cases c8 : 0 ≤ a8
     ·
      rw [if_pos c8] at H
      replace c8 := decide_eq_true c8
      by_cases c9 : a8 < (l0_7.length : Int)
      ·
       rw [if_pos c9] at H
       replace c9 := decide_eq_true c9; have HC10 := yab H; clear H
       have p102 : 0 ≤ (a8 : Int) := of_decide_eq_true (by first | (with_reducible assumption) | assumption)
       have q102 : a8 < (l0_7.length : Int) := of_decide_eq_true (by first | (with_reducible assumption) | assumption)
       obtain ⟨ad102, o1, o2, q8, b3, b4, b5, hl102_2, hi102_2⟩ := at_T158 HR0_7.out a8 p102 q102
       cases q8
       replace b3 := (HB.out.cell (World.block_lt_of_cell? w _ b3)).trans b3; replace b4 := (HB.out.cell (World.block_lt_of_cell? w _ b4)).trans b4; replace b5 := (HB.out.cell (World.block_lt_of_cell? w _ b5)).trans b5; have HR102_2 := yab hi102_2; have HC102_2 := yab hl102_2; clear hi102_2 hl102_2; replace p102 := eq_true p102; replace q102 := eq_true q102
       go_upto_region 6 with (first | ((with_reducible refine gd_ 4 rfl ?_); (try (refine gate_guard (by rfl) ?_; dsimp only)); refine bx_ 4 rfl #[.int .i64 0, .int .i64 0, .slice none 0 0] 158 ?_; intro g0 hg w11 hbox hb; have b1 := yab (hbox); have o5 := yab ((by rw [hg]; exact (below_size (by repeat (with_reducible first | exact HB.out | apply below_alloc | apply yac | apply below_drew1 | refine below_set ?_ (Aside0.out ‹_›)))) : w.heap.size ≤ g0)); replace HB := yab (below_step (by repeat (with_reducible first | exact HB.out | apply below_alloc | apply yac | apply below_drew1 | refine below_set ?_ (Aside0.out ‹_›))) hb); have r1 := o5; have a9 := yab ((by rw [hg]; exact Nat.ne_of_lt (blk_lt (upB b0.out)) : b6 ≠ g0)); replace b0 := yab (blk_below (upB b0.out) hb); have b2 := yab a9.out.symm; clear hb hbox hg; have r2 := b2.out; have r3 := a9.out; obtain ⟨g3, g4, g5⟩ := cc3_ b1.out; obtain ⟨g6, g7⟩ := cf2_ b1.out; have g8 := blk_frozen b1.out 2))
       (try simp only [Act.put, List.setIfInBounds_toArray, List.set_cons_zero, List.set_cons_succ])
       go_cut [34] (fun v34 wc => ∃ (kq : Nat) (b7 : Bool), v34 = .bool b7 ∧ Aside0 (impl_outsOk.j1 kq l0_7 (l0_7.length : Int) a8 b7 a0_0 a0_1 a0_2 a0_3 l0_4 l0_5 l0_6 l0_7 ((yaa l0_7 a8).f0) ((yaa l0_7 a8).f1) ((yaa l0_7 a8).f2) = some r) ∧ Aside0 (kq ≤ k1) ∧ Aside0 (wc.heap[b6]? = some (.cells #[.int .i64 a0_0, .int .i64 a0_1, .int .i64 a0_2, .int .i64 a0_3, (.slice A0_4 l0_4.length c0_4), (.slice A0_5 l0_5.length c0_5), (.slice A0_6 l0_6.length c0_6), (.slice (some ad102) l0_7.length c0_7)] 63 (0, 0))) ∧ Aside0 (wc.heap[g0]? = some (.cells #[.int .i64 ((yaa l0_7 a8).f0), .int .i64 ((yaa l0_7 a8).f1), (.slice o1 ((yaa l0_7 a8).f2).length o2)] 158 (0, 0))) ∧ Aside0 (Below w.heap.size w wc))
       case first =>
        have H := HC10.out; clear HC10; obtain ⟨q9, A14, H⟩ := bindA H; (try dsimp only at H)
        by_cases c15 : q9 = true
        ·
         subst c15
         rw [if_pos rfl] at H
         obtain ⟨r0, A16, H⟩ := bindA H; (try dsimp only at H)
         by_cases c17 : r0 = true
         ·
          subst c17
          rw [if_pos rfl] at H
          have H' := yab H; clear H; have r4 := b2.out; have r5 := a9.out; obtain ⟨g9, h0, h1⟩ := cc3_ b1.out; obtain ⟨h2, h3, h4⟩ := cf3_ b1.out; obtain ⟨h6, h7, h8, h9, i0, i1, i2, i3⟩ := cc8_ b0.out; obtain ⟨i4, i5, i6, i7, i8, i9, j0, j2⟩ := cf8_ b0.out
          go_wp2_with (first | ((with_reducible refine gc_ 62 rfl ?_); refine gl_ (some 21) rfl Try.func62 #[.int .i64 ((yaa l0_7 a8).f0), .int .i64 0, .int .i64 (wrap64 (a0_3 - 1))] ?_; (with_reducible refine (impl_within.calls ((yaa l0_7 a8).f0) 0 (wrap64 (a0_3 - 1)) true _ A14.out).mono ?_); rintro e w' ⟨rfl, ⟨nd, rfl⟩⟩; refine ⟨_, rfl, ?_⟩) | (go_at_call 129; (with_reducible refine (impl_codeOk.calls ((yaa l0_7 a8).f1) true _ A16.out).mono ?_); rintro e w' ⟨rfl, ⟨nd, rfl⟩⟩))
          go_meet
          case rel => exact ⟨_, (decide ((((yaa l0_7 a8).f2).length : Int) > 220)), (by first | rfl | (simp; done) | (simp [*]; done)), H', ⟨by have := HK1.out; first | omega | exact Nat.le_refl _⟩, ⟨by repeat (with_reducible first | exact b0.out | refine oneB ?_ | refine blk_far ?_ a9.out _)⟩, ⟨by (repeat refine oneB ?_); refine blk_put (cs := #[.int .i64 ((yaa l0_7 a8).f0), .int .i64 ((yaa l0_7 a8).f1), .slice none 0 0]) ?_ 2 _ rfl; refine blk_put (cs := #[.int .i64 ((yaa l0_7 a8).f0), .int .i64 0, .slice none 0 0]) ?_ 1 _ rfl; refine blk_put (cs := #[.int .i64 0, .int .i64 0, .slice none 0 0]) ?_ 0 _ rfl; exact upB b1.out⟩, ⟨by repeat (with_reducible first | exact HB.out | apply below_alloc | apply yac | apply below_drew1 | refine below_set ?_ (Aside0.out ‹_›))⟩⟩
         ·
          replace c17 := Bool.eq_false_iff.mpr c17
          subst c17
          rw [if_neg (show ¬ (false = true) by decide)] at H
          have H' := yab H; clear H; have r6 := b2.out; have r7 := a9.out; obtain ⟨j3, j4, j5⟩ := cc3_ b1.out; obtain ⟨j6, j7, j8⟩ := cf3_ b1.out; obtain ⟨j9, k0, k2, k3, k4, k5, k6, k7⟩ := cc8_ b0.out; obtain ⟨k8, k9, l1, l2, l3, l4, l5, l6⟩ := cf8_ b0.out
          go_wp2_with (first | ((with_reducible refine gc_ 62 rfl ?_); refine gl_ (some 21) rfl Try.func62 #[.int .i64 ((yaa l0_7 a8).f0), .int .i64 0, .int .i64 (wrap64 (a0_3 - 1))] ?_; (with_reducible refine (impl_within.calls ((yaa l0_7 a8).f0) 0 (wrap64 (a0_3 - 1)) true _ A14.out).mono ?_); rintro e w' ⟨rfl, ⟨nd, rfl⟩⟩; refine ⟨_, rfl, ?_⟩) | (go_at_call 129; (with_reducible refine (impl_codeOk.calls ((yaa l0_7 a8).f1) false _ A16.out).mono ?_); rintro e w' ⟨rfl, ⟨nd, rfl⟩⟩))
          go_meet
          case rel => exact ⟨_, (true), (by first | rfl | (simp; done) | (simp [*]; done)), H', ⟨by have := HK1.out; first | omega | exact Nat.le_refl _⟩, ⟨by repeat (with_reducible first | exact b0.out | refine oneB ?_ | refine blk_far ?_ a9.out _)⟩, ⟨by (repeat refine oneB ?_); refine blk_put (cs := #[.int .i64 ((yaa l0_7 a8).f0), .int .i64 ((yaa l0_7 a8).f1), .slice none 0 0]) ?_ 2 _ rfl; refine blk_put (cs := #[.int .i64 ((yaa l0_7 a8).f0), .int .i64 0, .slice none 0 0]) ?_ 1 _ rfl; refine blk_put (cs := #[.int .i64 0, .int .i64 0, .slice none 0 0]) ?_ 0 _ rfl; exact upB b1.out⟩, ⟨by repeat (with_reducible first | exact HB.out | apply below_alloc | apply yac | apply below_drew1 | refine below_set ?_ (Aside0.out ‹_›))⟩⟩
        ·
         replace c15 := Bool.eq_false_iff.mpr c15
         subst c15
         rw [if_neg (show ¬ (false = true) by decide)] at H
         have H' := yab H; clear H; have r8 := b2.out; have r9 := a9.out; obtain ⟨l7, l8, l9⟩ := cc3_ b1.out; obtain ⟨m0, m1, m2⟩ := cf3_ b1.out; obtain ⟨m3, m4, m5, m6, m7, m8, m9, n0⟩ := cc8_ b0.out; obtain ⟨n1, n2, n3, n4, n5, n6, n7, n8⟩ := cf8_ b0.out
         go_wp2_with (first | ((with_reducible refine gc_ 62 rfl ?_); refine gl_ (some 21) rfl Try.func62 #[.int .i64 ((yaa l0_7 a8).f0), .int .i64 0, .int .i64 (wrap64 (a0_3 - 1))] ?_; (with_reducible refine (impl_within.calls ((yaa l0_7 a8).f0) 0 (wrap64 (a0_3 - 1)) false _ A14.out).mono ?_); rintro e w' ⟨rfl, ⟨nd, rfl⟩⟩; refine ⟨_, rfl, ?_⟩))
         go_meet
         case rel => exact ⟨_, (true), (by first | rfl | (simp; done) | (simp [*]; done)), H', ⟨by have := HK1.out; first | omega | exact Nat.le_refl _⟩, ⟨by repeat (with_reducible first | exact b0.out | refine oneB ?_ | refine blk_far ?_ a9.out _)⟩, ⟨by (repeat refine oneB ?_); refine blk_put (cs := #[.int .i64 ((yaa l0_7 a8).f0), .int .i64 ((yaa l0_7 a8).f1), .slice none 0 0]) ?_ 2 _ rfl; refine blk_put (cs := #[.int .i64 ((yaa l0_7 a8).f0), .int .i64 0, .slice none 0 0]) ?_ 1 _ rfl; refine blk_put (cs := #[.int .i64 0, .int .i64 0, .slice none 0 0]) ?_ 0 _ rfl; exact upB b1.out⟩, ⟨by repeat (with_reducible first | exact HB.out | apply below_alloc | apply yac | apply below_drew1 | refine below_set ?_ (Aside0.out ‹_›))⟩⟩
       case rest =>
        clear HC10; (try clear c1); (try clear p1); (try clear q1); (try clear hx1); (try clear c2); (try clear n9); (try clear o0); (try clear p2); (try clear c6); (try clear p6); (try clear c7); (try clear o4); (try clear c8); (try clear c8b0); (try clear c9); (try clear c9b0); (try clear c10); (try clear p10); (try clear q10); (try clear hx10); (try clear c12); (try clear c15); (try clear c17); (try clear c18); (try clear c21); (try clear c24); (try clear g3); (try clear g4); (try clear g5); (try clear g9); (try clear h0); (try clear h1); (try clear h6); (try clear h7); (try clear h8); (try clear h9); (try clear i0); (try clear i1); (try clear i2); (try clear i3); (try clear j3); (try clear j4); (try clear j5); (try clear j9); (try clear k0); (try clear k2); (try clear k3); (try clear k4); (try clear k5); (try clear k6); (try clear k7); (try clear l7); (try clear l8); (try clear l9); (try clear m3); (try clear m4); (try clear m5); (try clear m6); (try clear m7); (try clear m8); (try clear m9); (try clear n0); (try clear b9); (try clear c0); (try clear c3); (try clear c4); (try clear c5); (try clear d0); (try clear d1); (try clear d2); (try clear e1); (try clear e2); (try clear e3); (try clear e4); (try clear e5); (try clear e6); (try clear e7); (try clear e8); (try clear g6); (try clear g7); (try clear g8); (try clear h2); (try clear h3); (try clear h4); (try clear i4); (try clear i5); (try clear i6); (try clear i7); (try clear i8); (try clear i9); (try clear j0); (try clear j2); (try clear j6); (try clear j7); (try clear j8); (try clear k8); (try clear k9); (try clear l1); (try clear l2); (try clear l3); (try clear l4); (try clear l5); (try clear l6); (try clear m0); (try clear m1); (try clear m2); (try clear n1); (try clear n2); (try clear n3); (try clear n4); (try clear n5); (try clear n6); (try clear n7); (try clear n8); (try clear d3); (try clear d4); (try clear d5); (try clear d6); (try clear d7); (try clear d8); (try clear d9); (try clear e0); (try clear e9); (try clear f3); (try clear f4); (try clear f5); (try clear f6); (try clear f7); (try clear f8); (try clear f9); (try clear b3); (try clear b4); (try clear b5); (try clear p102); (try clear p2); (try clear q102); obtain ⟨kq, b7, rfl, HA, HJ9, b0, b1, HB⟩ := hcut
        cases kq with
        | zero => exact absurd HA.out (by simp [impl_outsOk.j1])
        | succ kj9 =>
         have H := HA.out; clear HA
         simp only [impl_outsOk.j1] at H
         by_cases c27 : b7 = true
         ·
          subst c27
          rw [if_pos rfl] at H
          obtain rfl := Option.some.inj H
          go_wp2
          go_ret
          exact ⟨by first | rfl | (simp [*, errW_none, errW_some] <;> rfl), by repeat (with_reducible first | exact HB.out | apply below_alloc | apply yac | apply below_drew1 | refine below_set ?_ (Aside0.out ‹_›))⟩
         ·
          replace c27 := Bool.eq_false_iff.mpr c27
          subst c27
          rw [if_neg (show ¬ (false = true) by decide)] at H
          by_cases c28 : ((decide ((((yaa l0_7 a8).f2).length : Int) > 0)) != (((yaa l0_7 a8).f1) == 200)) = true
          ·
           rw [if_pos c28] at H
           have o7 : ((decide ((((yaa l0_7 a8).f2).length : Int) > 0)) != (((yaa l0_7 a8).f1) == 200)) = true := c28
           (try (have o8 : (decide (0 < (((yaa l0_7 a8).f2)).length) == (((yaa l0_7 a8).f1) == 200)) = false := by simpa using c28))
           (try (have o9 : decide ((decide ((((yaa l0_7 a8).f2).length : Int) > 0)) = (((yaa l0_7 a8).f1) == 200)) = false := by simpa using c28))
           (try (have p0 : ((decide ((((yaa l0_7 a8).f2).length : Int) > 0)) == (((yaa l0_7 a8).f1) == 200)) = false := by simpa using c28))
           (try (have s0 : ¬ ((decide ((((yaa l0_7 a8).f2).length : Int) > 0)) = (((yaa l0_7 a8).f1) == 200)) := by simpa using c28))
           clear c28; obtain rfl := Option.some.inj H; have s1 := b2.out; have s2 := a9.out; obtain ⟨p3, p4, p5⟩ := cc3_ b1.out; obtain ⟨p7, p8, p9⟩ := cf3_ b1.out
           go_wp2
           go_ret
           exact ⟨by first | rfl | (simp [*, errW_none, errW_some] <;> rfl), by repeat (with_reducible first | exact HB.out | apply below_alloc | apply yac | apply below_drew1 | refine below_set ?_ (Aside0.out ‹_›))⟩
          ·
           rw [if_neg c28] at H
           have o7 : ((decide ((((yaa l0_7 a8).f2).length : Int) > 0)) != (((yaa l0_7 a8).f1) == 200)) = false := (by simpa using c28)
           (try (have o8 : (decide (0 < (((yaa l0_7 a8).f2)).length) == (((yaa l0_7 a8).f1) == 200)) = true := by simpa using c28))
           (try (have o9 : decide ((decide ((((yaa l0_7 a8).f2).length : Int) > 0)) = (((yaa l0_7 a8).f1) == 200)) = true := by simpa using c28))
           (try (have p0 : ((decide ((((yaa l0_7 a8).f2).length : Int) > 0)) == (((yaa l0_7 a8).f1) == 200)) = true := by simpa using c28))
           clear c28; have H' := yab H; clear H; have s3 := b2.out; have s4 := a9.out; obtain ⟨q0, q2, q3⟩ := cc3_ b1.out; obtain ⟨q4, q5, q6⟩ := cf3_ b1.out
           go_wp2
           go_roundg kj9
           case measure => have := HK1.out; have := HJ9.out; omega
           case rel => exact ⟨(wrap64 (a8 + 1)), (by first | rfl | (simp; done) | (simp [*]; done)), H', ⟨by have := HK1.out; have := HJ9.out; omega⟩, ⟨by exact upB b0.out⟩, ⟨by repeat (with_reducible first | exact HB.out | apply below_alloc | apply yac | apply below_drew1 | refine below_set ?_ (Aside0.out ‹_›))⟩⟩
      ·
       rw [if_neg c9] at H
       exact absurd H (by simp)
     ·
      rw [if_neg c8] at H
      exact absurd H (by simp)
    ·
     rw [if_neg c7] at H
     have o4 : decide (a8 < (l0_7.length : Int)) = false := decide_eq_false c7; clear c7; obtain rfl := Option.some.inj H
     go_wp2
     go_ret
     exact ⟨by first | rfl | (simp [*, errW_none, errW_some] <;> rfl), by repeat (with_reducible first | exact HB.out | apply below_alloc | apply yac | apply below_drew1 | refine below_set ?_ (Aside0.out ‹_›))⟩
end
end Go.Proofs.Ytgpkkkmapgnhkaa.X
