/- Lemmas and contracts for the law FnOpsDo, part 2: of the program's functions, and over data alone. No condition. -/
import Derived.Test.YtoifpgkfpdeglaaMFnOpsDo1
import Derived.Test.YtoifpgkfpdeglaaProg
import Derived.Below
import Derived.Deep.Draws
import Derived.Deep.AppendLies
import Derived.Maps.AppendAt
import Derived.OwnWalk
import Derived.Laws.BytesArg
import Derived.Laws.MakeOwn
import Derived.Laws.OwnMore
import Derived.Deep.OwnRows
import Derived.Tactics
import Derived.Lib.ConvBytes
import Derived.Laws.Slices
import Derived.WalkKit
import Derived.KernelRfl
import Derived.RowKit3
import Derived.Deep.LoopGhost
import Derived.Deep.QuietTactic
import Derived.BigQuiet
import Derived.WideLaws
import Derived.Deep.DeepCutAuto
import Derived.Deep.CutBlock
import Derived.Deep.RegionHeld3
import Derived.Laws.Rows
import Derived.Lib.AppendStr
import Derived.ArgAppend
import Derived.Laws.IdiomCopy
import Derived.OrdersHeld
import Derived.Laws.BitsLemmas
import Derived.RowKit
namespace Go.Proofs.YtoifpgkfpdeglaaW.PrintLast
open Go.RowKit Go.Proofs.YtoifpgkfpdeglaaW.PrintWords
variable {P : Program} {ops : Array Oper} {Q : Exit → Act → World → Prop} {S : World → Prop} {ds : List Nat}
theorem pz_ {T : Bool × List (List Nat × List Nat)} {oi : Oper} {v : Value} {fuel : Nat} {l : Array Bool} {a : Act} {w : World} (i d : Nat) (l' : Array Bool) (hT : Aside0 (rtab .any ops = T)) (hc : anyT T l.toList l'.toList i = true) {a' : Act}
    (h : wpAnyLast P .any ops Q S ds fuel l' a' w)
    (hi : ops[i]? = some oi := by rfl) (hN : oi.dst = some d := by rfl) (hw : Region.wanted oi (yielded ops a.tmps) = true := by rfl)
    (hy : ∀ w', (execOp a.eval oi).run P w' = .ok (.value v) w' := by (intro w'; go_simp; with_reducible rfl))
    (ha : a.put (some d) v = a' := by (simp only [Act.put, List.setIfInBounds_toArray, List.set_cons_zero, List.set_cons_succ, i64_w, i32_w]; rfl))
    (hQ : ∀ c a w, Q (.panic c) (a.put oi.dst v) w → Q (.panic c) a w := by exact fun _ _ _ h => h) :
    wpAnyLast P .any ops Q S ds (fuel + 1) l a w :=
  pure_ l' hi hN (any_of hT.out hc) hQ (Or.inl ⟨hw, hy⟩) ha h
theorem tz_ {T : Bool × List (List Nat × List Nat)} {B : List Nat} {oi : Oper} {v : Value} {fuel : Nat} {l : Array Bool} {a : Act} {w : World} (i d : Nat) (l' : Array Bool) (hT : Aside0 (rtab .any ops = T)) (hB : Aside0 (waitsOk T.2 B = true)) (hc : takeW T B ds l.toList l'.toList i = true) (hS : S w) {a' : Act}
    (h : wpAnyLast P .any ops Q S ds fuel l' a' w)
    (hi : ops[i]? = some oi := by rfl) (hN : oi.dst = some d := by rfl) (hw : Region.wanted oi (yielded ops a.tmps) = true := by rfl)
    (hy : ∀ w', S w' → (execOp a.eval oi).run P w' = .ok (.value v) w' := by (intro w' hs; go_simp; with_reducible rfl))
    (ha : a.put (some d) v = a' := by (simp only [Act.put, List.setIfInBounds_toArray, List.set_cons_zero, List.set_cons_succ, i64_w, i32_w]; rfl))
    (hQ : ∀ c a w, Q (.panic c) (a.put oi.dst v) w → Q (.panic c) a w := by exact fun _ _ _ h => h) :
    wpAnyLast P .any ops Q S ds (fuel + 1) l a w :=
  take_ l' hi hN (take_ofW hT.out hB.out hc) hQ (Or.inl ⟨hw, hy⟩) hS ha h
class UpW (w w' : World) : Prop where
  step : ∀ K : World → Prop, (∀ v O, K v → K (v.alloc O)) → (∀ v, K v → K v.drew) → (∀ v n, K v → K (v.drewN n)) → K w → K w'
instance upw_refl (w : World) : UpW w w := ⟨fun _ _ _ _ h => h⟩
instance upw_alloc (w w' : World) (O : Obj) [h : UpW w w'] : UpW w (w'.alloc O) := ⟨fun K a b c k => a _ _ (h.step K a b c k)⟩
instance upw_drew (w w' : World) [h : UpW w w'] : UpW w w'.drew := ⟨fun K a b c k => b _ (h.step K a b c k)⟩
instance upw_drewN (w w' : World) (n : Nat) [h : UpW w w'] : UpW w (w'.drewN n) := ⟨fun K a b c k => c _ _ (h.step K a b c k)⟩
theorem upB {w w' : World} {g : Nat} {o : Obj} (h : w.heap[g]? = some o) [u : UpW w w'] : w'.heap[g]? = some o := u.step (fun v => v.heap[g]? = some o) (fun _ O k => blk_alloc k O) (fun _ k => blk_drew k) (fun _ n k => blk_drewN k n) h
theorem upR {α : Type} {d : Kd α} {e base : Nat} {ok : Nat → Prop} {w w' : World} {v : Value} {xs : List α} (h : d.R e w base ok v xs) [u : UpW w w'] : d.R e w' base ok v xs := u.step (fun x => d.R e x base ok v xs) (fun _ O k => Kd.R_alloc k O) (fun _ k => Kd.R_drew k) (fun _ n k => Kd.R_drewN k n) h
theorem upQ {α : Type} {d : Kd α} {e base : Nat} {ok : Nat → Prop} {w w' : World} {v : Value} {xs : List α} (h : d.Q e w base ok v xs) [u : UpW w w'] : d.Q e w' base ok v xs := u.step (fun x => d.Q e x base ok v xs) (fun _ O k => Kd.Q_alloc k O) (fun _ k => Kd.Q_drew k) (fun _ n k => Kd.Q_drewN k n) h
theorem upH {w0 w w' : World} (h : Below w0.heap.size w0 w) [u : UpW w w'] : Below w0.heap.size w0 w' := u.step (fun x => Below w0.heap.size w0 x) (fun _ O k => below_alloc k O) (fun _ k => below_drew1 k) (fun _ n k => pw_below_drewN k n) h
class OneW (w : outParam World) (w' : World) : Prop where
  up : UpW w w'
instance onew_alloc (w : World) (O : Obj) : OneW w (w.alloc O) := ⟨inferInstance⟩
instance onew_drew (w : World) : OneW w w.drew := ⟨inferInstance⟩
instance onew_drewN (w : World) (n : Nat) : OneW w (w.drewN n) := ⟨inferInstance⟩
theorem oneB {w w' : World} {g : Nat} {o : Obj} (h : w.heap[g]? = some o) [u : OneW w w'] : w'.heap[g]? = some o := @upB _ _ _ _ h u.up
section
variable {w : World} {g t : Nat} {a b c d e f i j k : Value}
theorem cc3_ (h : w.heap[g]? = some (.cells #[a, b, c] t (0, 0))) : w.cell? ⟨g, 0, none⟩ = some a ∧ w.cell? ⟨g, 1, none⟩ = some b ∧ w.cell? ⟨g, 2, none⟩ = some c := ⟨(blk_cell h 0).trans rfl, (blk_cell h 1).trans rfl, (blk_cell h 2).trans rfl⟩
theorem cc4_ (h : w.heap[g]? = some (.cells #[a, b, c, d] t (0, 0))) : w.cell? ⟨g, 0, none⟩ = some a ∧ w.cell? ⟨g, 1, none⟩ = some b ∧ w.cell? ⟨g, 2, none⟩ = some c ∧ w.cell? ⟨g, 3, none⟩ = some d := ⟨(blk_cell h 0).trans rfl, (blk_cell h 1).trans rfl, (blk_cell h 2).trans rfl, (blk_cell h 3).trans rfl⟩
theorem cc5_ (h : w.heap[g]? = some (.cells #[a, b, c, d, e] t (0, 0))) : w.cell? ⟨g, 0, none⟩ = some a ∧ w.cell? ⟨g, 1, none⟩ = some b ∧ w.cell? ⟨g, 2, none⟩ = some c ∧ w.cell? ⟨g, 3, none⟩ = some d ∧ w.cell? ⟨g, 4, none⟩ = some e := ⟨(blk_cell h 0).trans rfl, (blk_cell h 1).trans rfl, (blk_cell h 2).trans rfl, (blk_cell h 3).trans rfl, (blk_cell h 4).trans rfl⟩
variable {cs : Array Value}
theorem cf2_ (h : w.heap[g]? = some (.cells cs t (0, 0))) : w.frozen? ⟨g, 0, none⟩ = false ∧ w.frozen? ⟨g, 1, none⟩ = false := ⟨blk_frozen h 0, blk_frozen h 1⟩
theorem cf3_ (h : w.heap[g]? = some (.cells cs t (0, 0))) : w.frozen? ⟨g, 0, none⟩ = false ∧ w.frozen? ⟨g, 1, none⟩ = false ∧ w.frozen? ⟨g, 2, none⟩ = false := ⟨blk_frozen h 0, blk_frozen h 1, blk_frozen h 2⟩
theorem cf4_ (h : w.heap[g]? = some (.cells cs t (0, 0))) : w.frozen? ⟨g, 0, none⟩ = false ∧ w.frozen? ⟨g, 1, none⟩ = false ∧ w.frozen? ⟨g, 2, none⟩ = false ∧ w.frozen? ⟨g, 3, none⟩ = false := ⟨blk_frozen h 0, blk_frozen h 1, blk_frozen h 2, blk_frozen h 3⟩
theorem cf5_ (h : w.heap[g]? = some (.cells cs t (0, 0))) : w.frozen? ⟨g, 0, none⟩ = false ∧ w.frozen? ⟨g, 1, none⟩ = false ∧ w.frozen? ⟨g, 2, none⟩ = false ∧ w.frozen? ⟨g, 3, none⟩ = false ∧ w.frozen? ⟨g, 4, none⟩ = false := ⟨blk_frozen h 0, blk_frozen h 1, blk_frozen h 2, blk_frozen h 3, blk_frozen h 4⟩
end
theorem upc_ {w w' : World} {a : Addr} {v : Value} (hb : Below w.heap.size w w') (h : w.cell? a = some v) : w'.cell? a = some v := (hb.cell (World.block_lt_of_cell? w _ h)).trans h
theorem bindA {α β : Type} {x : Option α} {f : α → Option β} {r : β} (H : x.bind f = some r) : ∃ a, Aside0 (x = some a) ∧ f a = some r := by
  obtain ⟨a, h, k⟩ := Option.bind_eq_some_iff.mp H
  exact ⟨a, ⟨h⟩, k⟩
def bl_ (n m : Nat) : Array Bool := ((List.range n).map fun i => m.testBit i).toArray
theorem bindY {α β : Type} {L : α} {F : α → Option β} {r : Option β} (H : (some L).bind F = r) : ∃ y, y = L ∧ F y = r := ⟨L, rfl, H⟩
theorem offA_ {b x y : Bool} {P : Prop} (h : b = x) (hxy : (x == y) = false := by decide) (h1 : b = y) : P := by
  subst h; subst h1; simp at hxy
section
variable {P : Program} {ops : Array Oper} {rest : List Oper} {o : Oper} {a : Act} {Q : Exit → Act → World → Prop}
theorem bx_ {W : World} (N : Tmp) (hd : o.dst = some N) (cs : Array Value) (t : TypeId)
    (h : ∀ g, g = W.heap.size → ∀ w1, w1.heap[g]? = some (.cells cs t (0, 0)) → Below W.heap.size W w1 → wpList P ops Q rest (a.put o.dst (.pointer (some ⟨g, 0, none⟩))) w1)
    (hg : o.guard = none := by first | rfl | (simp [Region.wanted, yielded, *]; done))
    (hr : (execOp a.eval o).run P W = .ok (.value (.pointer (some ⟨W.heap.size, 0, none⟩))) (W.alloc (.cells cs t (0, 0))) := by first | (go_simp; done) | (go_simp; rfl)) : wpList P ops Q (o :: rest) a W := box_event hg hd hr h
theorem gc_ (f : FuncId) {W : World} {as1 : Array Operand} {ts : Array TypeId} (_ho : o.op = .call { callee := .value (.func f), args := as1, argTypes := ts }) (h : wpList P ops Q (o :: rest) a W) : wpList P ops Q (o :: rest) a W := h
theorem gd_ (N : Tmp) {W : World} (_hN : o.dst = some N) (h : wpList P ops Q (o :: rest) a W) : wpList P ops Q (o :: rest) a W := h
theorem gl_ {w : World} (N : Option Tmp) (hd : o.dst = N) {f : FuncId} {fn : Func} {aa : Array Operand} {ts : Array TypeId} (hf : P.funcs[f]? = some fn) (args : Array Value)
    (h : Calls P f args w fun e w' => ∃ v, e = .returned v ∧ wpList P ops Q rest (a.put N v) w') (hg : o.guard = none := by rfl) (hname : (fn.name == "runtime.NumGoroutine") = false := by kernel_rfl) (hb : fn.body.isSome = true := by rfl)
    (hop : o.op = .call { callee := .value (.func f), args := aa, argTypes := ts } := by rfl) (hargs : aa.map a.eval = args := by ((try simp only [List.map_toArray, List.map_cons, List.map_nil]); first | done | rfl | (simp only [List.length_drop, List.length_take]; rfl))) : wpList P ops Q (o :: rest) a w :=
  goesL_ N hd hg hf hname hb args hop hargs h
end
end Go.Proofs.YtoifpgkfpdeglaaW.PrintLast
namespace Go.Proofs.Ytoifpgkfpdeglaa.X
open Go.RowKit Go.Proofs.YtoifpgkfpdeglaaW.PrintWords Go.Proofs.YtoifpgkfpdeglaaW.PrintLast Go.Proofs.YtoifpgkfpdeglaaW.PrintMore
attribute [local go_sem] max2_int min2_int max_two min_two max_three min_three max_four min_four
set_option linter.unusedVariables false
set_option linter.unusedSimpArgs false
section
def errW : Option Int → Value
  | none => .nilIface
  | some c => .iface 0 (.int .i64 c)
theorem errW_none : errW none = .nilIface := rfl
theorem errW_some (c : Int) : errW (some c) = .iface 0 (.int .i64 c) := rfl
theorem info5 : (Try.prog.info? 5).map (fun i => (i.zero, i.size, i.bytes)) = some (some (.int .u8 0), 1, 1) := by kernel_rfl
theorem info27 : (Try.prog.info? 27).map (fun i => (i.zero, i.size, i.bytes)) = some (some (.agg #[(.int .i64 0), (.int .i64 0), (.int .i64 0), (.int .i64 0), (.int .i64 0)]), 5, 40) := by kernel_rfl
theorem info36 : (Try.prog.info? 36).map (fun i => (i.zero, i.size, i.bytes)) = some (some (.agg #[(.int .i64 0), (.int .i64 0), (.int .i64 0), (.int .i64 0)]), 4, 32) := by kernel_rfl
structure S36 where
  f0 : Int
  f1 : Int
  f2 : Int
  f3 : Int
def z36 : S36 := ⟨(0 : Int), (0 : Int), (0 : Int), (0 : Int)⟩
def k36 : Kd S36 := Kd.iso (Kd.pair (Kd.int .i64) (Kd.pair (Kd.int .i64) (Kd.pair (Kd.int .i64) (Kd.int .i64)))) (fun x : S36 => (x.f0, x.f1, x.f2, x.f3))
theorem k36_open {w : World} {x : S36} {cs : List Value} (h : k36.K w x cs) : cs = [.int .i64 x.f0, .int .i64 x.f1, .int .i64 x.f2, .int .i64 x.f3] := by
  obtain ⟨_, _, rfl, rfl, ⟨_, _, rfl, rfl, ⟨_, _, rfl, rfl, rfl⟩⟩⟩ := h
  exact rfl
theorem k36_openM {w : World} {base : Nat} {ok : Nat → Prop} {x : S36} {cs : List Value} (h : k36.M w base ok x cs) : cs = [.int .i64 x.f0, .int .i64 x.f1, .int .i64 x.f2, .int .i64 x.f3] := by
  obtain ⟨_, _, rfl, rfl, ⟨_, _, rfl, rfl, ⟨_, _, rfl, rfl, rfl⟩⟩⟩ := h
  exact rfl
theorem k36_mkM (w : World) (base : Nat) (ok : Nat → Prop) (x : S36)  : k36.M w base ok x [.int .i64 x.f0, .int .i64 x.f1, .int .i64 x.f2, .int .i64 x.f3] := ⟨[.int .i64 x.f0], [.int .i64 x.f1, .int .i64 x.f2, .int .i64 x.f3], rfl, rfl, ⟨[.int .i64 x.f1], [.int .i64 x.f2, .int .i64 x.f3], rfl, rfl, ⟨[.int .i64 x.f2], [.int .i64 x.f3], rfl, rfl, rfl⟩⟩⟩
def rd_T36 (xs : List S36) (i : Int) : S36 := xs.getD i.toNat z36
theorem at_T36 {w : World} {A : Option Addr} {n : Nat} {xs : List S36} (h : Kd.C k36 w A n xs) (i : Int) (h0 : 0 ≤ i) (h1 : i < n) : ∃ ad , A = some ad ∧ w.cell? (ad.add (i.toNat * 4)) = some (.int .i64 (rd_T36 xs i).f0) ∧ w.cell? ⟨(ad.add (i.toNat * 4)).block, (ad.add (i.toNat * 4)).off + 1, none⟩ = some (.int .i64 (rd_T36 xs i).f1) ∧ w.cell? ⟨(ad.add (i.toNat * 4)).block, (ad.add (i.toNat * 4)).off + 2, none⟩ = some (.int .i64 (rd_T36 xs i).f2) ∧ w.cell? ⟨(ad.add (i.toNat * 4)).block, (ad.add (i.toNat * 4)).off + 3, none⟩ = some (.int .i64 (rd_T36 xs i).f3) := by
  obtain ⟨ad, c, e, _, hK, hc0⟩ := Kd.C_get h z36 i h0 h1
  have hc : ∀ j u, c[j]? = some u → w.cell? (ad.add (i.toNat * 4 + j)) = some u := hc0
  obtain rfl := k36_open hK
  exact ⟨ad, e, hc 0 _ rfl, by rw [← add_field _ _ 1 (by omega)]; exact hc 1 _ rfl, by rw [← add_field _ _ 2 (by omega)]; exact hc 2 _ rfl, by rw [← add_field _ _ 3 (by omega)]; exact hc 3 _ rfl⟩
structure S27 where
  f0 : Int
  f1 : Int
  f2 : Int
  f3 : Int
  f4 : Int
def z27 : S27 := ⟨(0 : Int), (0 : Int), (0 : Int), (0 : Int), (0 : Int)⟩
def k27 : Kd S27 := Kd.iso (Kd.pair (Kd.int .i64) (Kd.pair (Kd.int .i64) (Kd.pair (Kd.int .i64) (Kd.pair (Kd.int .i64) (Kd.int .i64))))) (fun x : S27 => (x.f0, x.f1, x.f2, x.f3, x.f4))
theorem k27_open {w : World} {x : S27} {cs : List Value} (h : k27.K w x cs) : cs = [.int .i64 x.f0, .int .i64 x.f1, .int .i64 x.f2, .int .i64 x.f3, .int .i64 x.f4] := by
  obtain ⟨_, _, rfl, rfl, ⟨_, _, rfl, rfl, ⟨_, _, rfl, rfl, ⟨_, _, rfl, rfl, rfl⟩⟩⟩⟩ := h
  exact rfl
theorem k27_mkM (w : World) (base : Nat) (ok : Nat → Prop) (x : S27)  : k27.M w base ok x [.int .i64 x.f0, .int .i64 x.f1, .int .i64 x.f2, .int .i64 x.f3, .int .i64 x.f4] := ⟨[.int .i64 x.f0], [.int .i64 x.f1, .int .i64 x.f2, .int .i64 x.f3, .int .i64 x.f4], rfl, rfl, ⟨[.int .i64 x.f1], [.int .i64 x.f2, .int .i64 x.f3, .int .i64 x.f4], rfl, rfl, ⟨[.int .i64 x.f2], [.int .i64 x.f3, .int .i64 x.f4], rfl, rfl, ⟨[.int .i64 x.f3], [.int .i64 x.f4], rfl, rfl, rfl⟩⟩⟩⟩
def rd_T27 (xs : List S27) (i : Int) : S27 := xs.getD i.toNat z27
theorem at_T27 {w : World} {A : Option Addr} {n : Nat} {xs : List S27} (h : Kd.C k27 w A n xs) (i : Int) (h0 : 0 ≤ i) (h1 : i < n) : ∃ ad , A = some ad ∧ w.cell? (ad.add (i.toNat * 5)) = some (.int .i64 (rd_T27 xs i).f0) ∧ w.cell? ⟨(ad.add (i.toNat * 5)).block, (ad.add (i.toNat * 5)).off + 1, none⟩ = some (.int .i64 (rd_T27 xs i).f1) ∧ w.cell? ⟨(ad.add (i.toNat * 5)).block, (ad.add (i.toNat * 5)).off + 2, none⟩ = some (.int .i64 (rd_T27 xs i).f2) ∧ w.cell? ⟨(ad.add (i.toNat * 5)).block, (ad.add (i.toNat * 5)).off + 3, none⟩ = some (.int .i64 (rd_T27 xs i).f3) ∧ w.cell? ⟨(ad.add (i.toNat * 5)).block, (ad.add (i.toNat * 5)).off + 4, none⟩ = some (.int .i64 (rd_T27 xs i).f4) := by
  obtain ⟨ad, c, e, _, hK, hc0⟩ := Kd.C_get h z27 i h0 h1
  have hc : ∀ j u, c[j]? = some u → w.cell? (ad.add (i.toNat * 5 + j)) = some u := hc0
  obtain rfl := k27_open hK
  exact ⟨ad, e, hc 0 _ rfl, by rw [← add_field _ _ 1 (by omega)]; exact hc 1 _ rfl, by rw [← add_field _ _ 2 (by omega)]; exact hc 2 _ rfl, by rw [← add_field _ _ 3 (by omega)]; exact hc 3 _ rfl, by rw [← add_field _ _ 4 (by omega)]; exact hc 4 _ rfl⟩
structure S94 where
  f0 : Int
  f1 : Int
  f2 : Int
  f3 : Int
structure S45 where
  f0 : Int
  f1 : Int
  f2 : Int
  f3 : Int
  f4 : Int
end
section
def impl_partOk.f (a0 : Int) : Option (Bool) := if a0 ≥ 0 then (some (decide (a0 ≤ 255))) else (some false)
set_option maxHeartbeats 8000000 in
set_option maxRecDepth 100000 in
theorem impl_partOk.calls (a0 : Int) (r : Bool) (w : World) (h : impl_partOk.f a0 = some r) :
    Calls Try.prog 60 #[.int .i64 a0] w fun e w' => e = .returned (.bool r) ∧ Drawn0 w w' := by
  have H : (if a0 ≥ 0 then (some (decide (a0 ≤ 255))) else (some false)) = some r := h; clear h
  by_cases c2 : a0 ≥ 0
  · rw [if_pos c2] at H
    have c2b0 : decide (0 ≤ a0) = true := decide_eq_true c2; clear c2; obtain rfl := Option.some.inj H
    go_enter Try.func60, Try.ntmps60
    go_wp2
    go_ret
    exact ⟨by first | rfl | (simp; done) | (simp [*]; done), by repeat (first | exact Drawn0.refl _ | apply Drawn0.step)⟩
  · rw [if_neg c2] at H
    have c2b0 : decide (0 ≤ a0) = false := decide_eq_false c2; clear c2; obtain rfl := Option.some.inj H
    go_enter Try.func60, Try.ntmps60
    go_wp2
    go_ret
    exact ⟨by first | rfl | (simp; done) | (simp [*]; done), by repeat (first | exact Drawn0.refl _ | apply Drawn0.step)⟩
end
section
def impl_PixOk.f (a0_0 : Int) (a0_1 : Int) (a0_2 : Int) (a0_3 : Int) : Option (Bool) := (impl_partOk.f a0_0).bind fun t102 => (if t102 = true then ((impl_partOk.f a0_1).bind fun t103 => (if t103 = true then ((impl_partOk.f a0_2).bind fun t104 => (if t104 = true then ((impl_partOk.f a0_3).bind fun t105 => (some t105)) else (some false))) else (some false))) else (some false))
set_option maxHeartbeats 8000000 in
set_option maxRecDepth 100000 in
theorem impl_PixOk.calls (a0_0 : Int) (a0_1 : Int) (a0_2 : Int) (a0_3 : Int) (r : Bool) (w : World) (h : impl_PixOk.f a0_0 a0_1 a0_2 a0_3 = some r) :
  Calls Try.prog 40 #[.agg #[.int .i64 a0_0, .int .i64 a0_1, .int .i64 a0_2, .int .i64 a0_3]] w fun e w' => e = .returned (.bool r) ∧ Below w.heap.size w w' := by
 have hu36 := Try.underlying36; have HB := Aside0.mk (Below.refl w.heap.size w); have H : ((impl_partOk.f a0_0).bind fun a4 => (if a4 = true then ((impl_partOk.f a0_1).bind fun a5 => (if a5 = true then ((impl_partOk.f a0_2).bind fun a6 => (if a6 = true then ((impl_partOk.f a0_3).bind fun a7 => (some a7)) else (some false))) else (some false))) else (some false))) = some r := h; clear h; obtain ⟨a4, A2, H⟩ := bindA H; (try dsimp only at H)
 by_cases c3 : a4 = true
 ·
  subst c3
  rw [if_pos rfl] at H
  obtain ⟨a5, A4, H⟩ := bindA H; (try dsimp only at H)
  by_cases c5 : a5 = true
  ·
   subst c5
   rw [if_pos rfl] at H
   obtain ⟨a6, A6, H⟩ := bindA H; (try dsimp only at H)
   by_cases c7 : a6 = true
   ·
    subst c7
    rw [if_pos rfl] at H
    obtain ⟨a7, A8, H⟩ := bindA H; (try dsimp only at H); obtain rfl := Option.some.inj H
    go_enter Try.func40, Try.ntmps40
    go_wp2_with (first | ((with_reducible refine gd_ 1 rfl ?_); refine bx_ 1 rfl #[.int .i64 a0_0, .int .i64 a0_1, .int .i64 a0_2, .int .i64 a0_3] 36 ?_; intro a1 hg w9 hbox hb; have a0 := Aside0.mk (hbox); have a2 := Aside0.mk ((by rw [hg]; exact (below_size (upH HB.out)) : w.heap.size ≤ a1)); replace HB := Aside0.mk (below_step (upH HB.out) hb); have a3 := a2; clear hb hbox hg; obtain ⟨b0, b1, b2, b3⟩ := cc4_ a0.out; obtain ⟨b4, b5, b6⟩ := cf3_ a0.out; have b7 := blk_frozen a0.out 3) | ((with_reducible refine gc_ 60 rfl ?_); refine gl_ (some 5) rfl Try.func60 #[.int .i64 a0_0] ?_; (with_reducible refine (impl_partOk.calls a0_0 true _ A2.out).mono ?_); rintro e w' ⟨rfl, ⟨nd, rfl⟩⟩; refine ⟨_, rfl, ?_⟩) | (go_at_call 60; (with_reducible refine (impl_partOk.calls a0_1 true _ A4.out).mono ?_); rintro e w' ⟨rfl, ⟨nd, rfl⟩⟩) | (go_at_call 60; (with_reducible refine (impl_partOk.calls a0_2 true _ A6.out).mono ?_); rintro e w' ⟨rfl, ⟨nd, rfl⟩⟩) | (go_at_call 60; (with_reducible refine (impl_partOk.calls a0_3 a7 _ A8.out).mono ?_); rintro e w' ⟨rfl, ⟨nd, rfl⟩⟩))
    go_ret
    exact ⟨by first | rfl | (simp [*, errW_none, errW_some] <;> rfl), by repeat (with_reducible first | exact HB.out | apply below_alloc | apply pw_below_drewN | apply below_drew1 | refine below_set ?_ (Aside0.out ‹_›))⟩
   ·
    replace c7 := Bool.eq_false_iff.mpr c7
    subst c7
    rw [if_neg (show ¬ (false = true) by decide)] at H
    obtain rfl := Option.some.inj H
    go_enter Try.func40, Try.ntmps40
    go_wp2_with (first | ((with_reducible refine gd_ 1 rfl ?_); refine bx_ 1 rfl #[.int .i64 a0_0, .int .i64 a0_1, .int .i64 a0_2, .int .i64 a0_3] 36 ?_; intro a1 hg w11 hbox hb; have a0 := Aside0.mk (hbox); have a2 := Aside0.mk ((by rw [hg]; exact (below_size (upH HB.out)) : w.heap.size ≤ a1)); replace HB := Aside0.mk (below_step (upH HB.out) hb); have a3 := a2; clear hb hbox hg; obtain ⟨b8, b9, c0, c1⟩ := cc4_ a0.out; obtain ⟨c2, c4, c6⟩ := cf3_ a0.out; have c8 := blk_frozen a0.out 3) | ((with_reducible refine gc_ 60 rfl ?_); refine gl_ (some 5) rfl Try.func60 #[.int .i64 a0_0] ?_; (with_reducible refine (impl_partOk.calls a0_0 true _ A2.out).mono ?_); rintro e w' ⟨rfl, ⟨nd, rfl⟩⟩; refine ⟨_, rfl, ?_⟩) | (go_at_call 60; (with_reducible refine (impl_partOk.calls a0_1 true _ A4.out).mono ?_); rintro e w' ⟨rfl, ⟨nd, rfl⟩⟩) | (go_at_call 60; (with_reducible refine (impl_partOk.calls a0_2 false _ A6.out).mono ?_); rintro e w' ⟨rfl, ⟨nd, rfl⟩⟩))
    go_ret
    exact ⟨by first | rfl | (simp [*, errW_none, errW_some] <;> rfl), by repeat (with_reducible first | exact HB.out | apply below_alloc | apply pw_below_drewN | apply below_drew1 | refine below_set ?_ (Aside0.out ‹_›))⟩
  ·
   replace c5 := Bool.eq_false_iff.mpr c5
   subst c5
   rw [if_neg (show ¬ (false = true) by decide)] at H
   obtain rfl := Option.some.inj H
   go_enter Try.func40, Try.ntmps40
   go_wp2_with (first | ((with_reducible refine gd_ 1 rfl ?_); refine bx_ 1 rfl #[.int .i64 a0_0, .int .i64 a0_1, .int .i64 a0_2, .int .i64 a0_3] 36 ?_; intro a1 hg w13 hbox hb; have a0 := Aside0.mk (hbox); have a2 := Aside0.mk ((by rw [hg]; exact (below_size (upH HB.out)) : w.heap.size ≤ a1)); replace HB := Aside0.mk (below_step (upH HB.out) hb); have a3 := a2; clear hb hbox hg; obtain ⟨c9, d0, d1, d2⟩ := cc4_ a0.out; obtain ⟨d3, d4, d5⟩ := cf3_ a0.out; have d6 := blk_frozen a0.out 3) | ((with_reducible refine gc_ 60 rfl ?_); refine gl_ (some 5) rfl Try.func60 #[.int .i64 a0_0] ?_; (with_reducible refine (impl_partOk.calls a0_0 true _ A2.out).mono ?_); rintro e w' ⟨rfl, ⟨nd, rfl⟩⟩; refine ⟨_, rfl, ?_⟩) | (go_at_call 60; (with_reducible refine (impl_partOk.calls a0_1 false _ A4.out).mono ?_); rintro e w' ⟨rfl, ⟨nd, rfl⟩⟩))
   go_ret
   exact ⟨by first | rfl | (simp [*, errW_none, errW_some] <;> rfl), by repeat (with_reducible first | exact HB.out | apply below_alloc | apply pw_below_drewN | apply below_drew1 | refine below_set ?_ (Aside0.out ‹_›))⟩
 ·
  replace c3 := Bool.eq_false_iff.mpr c3
  subst c3
  rw [if_neg (show ¬ (false = true) by decide)] at H
  obtain rfl := Option.some.inj H
  go_enter Try.func40, Try.ntmps40
  go_wp2_with (first | ((with_reducible refine gd_ 1 rfl ?_); refine bx_ 1 rfl #[.int .i64 a0_0, .int .i64 a0_1, .int .i64 a0_2, .int .i64 a0_3] 36 ?_; intro a1 hg w15 hbox hb; have a0 := Aside0.mk (hbox); have a2 := Aside0.mk ((by rw [hg]; exact (below_size (upH HB.out)) : w.heap.size ≤ a1)); replace HB := Aside0.mk (below_step (upH HB.out) hb); have a3 := a2; clear hb hbox hg; obtain ⟨d7, d8, d9, e0⟩ := cc4_ a0.out; obtain ⟨e1, e2, e3⟩ := cf3_ a0.out; have e4 := blk_frozen a0.out 3) | ((with_reducible refine gc_ 60 rfl ?_); refine gl_ (some 5) rfl Try.func60 #[.int .i64 a0_0] ?_; (with_reducible refine (impl_partOk.calls a0_0 false _ A2.out).mono ?_); rintro e w' ⟨rfl, ⟨nd, rfl⟩⟩; refine ⟨_, rfl, ?_⟩))
  go_ret
  exact ⟨by first | rfl | (simp [*, errW_none, errW_some] <;> rfl), by repeat (with_reducible first | exact HB.out | apply below_alloc | apply pw_below_drewN | apply below_drew1 | refine below_set ?_ (Aside0.out ‹_›))⟩
end
section
def impl_sizeOk.f (a0 : Int) : Option (Bool) := if a0 ≥ 1 then (some (decide (a0 ≤ 6))) else (some false)
set_option maxHeartbeats 8000000 in
set_option maxRecDepth 100000 in
theorem impl_sizeOk.calls (a0 : Int) (r : Bool) (w : World) (h : impl_sizeOk.f a0 = some r) :
    Calls Try.prog 42 #[.int .i64 a0] w fun e w' => e = .returned (.bool r) ∧ Drawn0 w w' := by
  have H : (if a0 ≥ 1 then (some (decide (a0 ≤ 6))) else (some false)) = some r := h; clear h
  by_cases c2 : a0 ≥ 1
  · rw [if_pos c2] at H
    have c2b0 : decide (1 ≤ a0) = true := decide_eq_true c2; clear c2; obtain rfl := Option.some.inj H
    go_enter Try.func42, Try.ntmps42
    go_wp2
    go_ret
    exact ⟨by first | rfl | (simp; done) | (simp [*]; done), by repeat (first | exact Drawn0.refl _ | apply Drawn0.step)⟩
  · rw [if_neg c2] at H
    have c2b0 : decide (1 ≤ a0) = false := decide_eq_false c2; clear c2; obtain rfl := Option.some.inj H
    go_enter Try.func42, Try.ntmps42
    go_wp2
    go_ret
    exact ⟨by first | rfl | (simp; done) | (simp [*]; done), by repeat (first | exact Drawn0.refl _ | apply Drawn0.step)⟩
end
section
open Go.Proofs.YtoifpgkfpdeglaaW.PrintWords.Aside0 renaming mk → yaa
open Go.Proofs.YtoifpgkfpdeglaaW.PrintWords renaming pw_below_drewN → yab, below_alloc → yac, below_drew1 → yad
open Go.Proofs.Ytoifpgkfpdeglaa.X renaming rd_T36 → yae
mutual
def impl_RasOk.j0 : Nat → Bool → Int → Int → List (S36) → Option (Bool)
 | 0, _, _, _, _ => none
 | k + 1, x25, x102000, x102001, x102002 => if x25 = true then (some false) else (impl_RasOk.l0 k x102002 (x102002.length : Int) 0)
def impl_RasOk.l0 : Nat → List (S36) → Int → Int → Option (Bool)
 | 0, _, _, _ => none
 | k + 1, x27, x28, x29 => if x29 < x28 then (if 0 ≤ x29 then (if x29 < (x27.length : Int) then ((impl_PixOk.f ((rd_T36 x27 x29).f0) ((rd_T36 x27 x29).f1) ((rd_T36 x27 x29).f2) ((rd_T36 x27 x29).f3)).bind fun t106 => (if t106 = true then (impl_RasOk.l0 k x27 x28 (wrap64 (x29 + 1))) else (some false))) else (none)) else (none)) else (some true)
end
def impl_RasOk.f (k : Nat) (a0_0 : Int) (a0_1 : Int) (l0_2 : List (S36)) : Option (Bool) := (impl_sizeOk.f a0_0).bind fun t102 => (if t102 = true then ((impl_sizeOk.f a0_1).bind fun t103 => (if t103 = true then (impl_RasOk.j0 k ((l0_2.length : Int) != (wrap64 (a0_0 * a0_1))) a0_0 a0_1 l0_2) else (impl_RasOk.j0 k true a0_0 a0_1 l0_2))) else (impl_RasOk.j0 k true a0_0 a0_1 l0_2))
set_option maxHeartbeats 8000000 in
set_option maxRecDepth 100000 in
theorem impl_RasOk.calls (k : Nat) (a0_0 : Int) (a0_1 : Int) (A0_2 : Option Addr) (c0_2 : Nat) (l0_2 : List (S36)) (r : Bool) (w : World) (hr0_2 : Kd.C k36 w A0_2 l0_2.length l0_2) (hc0_2 : l0_2.length ≤ c0_2) (h : impl_RasOk.f k a0_0 a0_1 l0_2 = some r) :
  Calls Try.prog 17 #[.agg #[.int .i64 a0_0, .int .i64 a0_1, .slice A0_2 l0_2.length c0_2]] w fun e w' => e = .returned (.bool r) ∧ Below w.heap.size w w' := by
 have hu25 := Try.underlying25; have hu36 := Try.underlying36; have HR0_2 := yaa hr0_2; have HC0_2 := yaa hc0_2; clear hr0_2 hc0_2; have HB := yaa (Below.refl w.heap.size w); have H : ((impl_sizeOk.f a0_0).bind fun e5 => (if e5 = true then ((impl_sizeOk.f a0_1).bind fun e6 => (if e6 = true then (impl_RasOk.j0 k ((l0_2.length : Int) != (wrap64 (a0_0 * a0_1))) a0_0 a0_1 l0_2) else (impl_RasOk.j0 k true a0_0 a0_1 l0_2))) else (impl_RasOk.j0 k true a0_0 a0_1 l0_2))) = some r := h; clear h; have HC2 := yaa H; clear H
 go_enter Try.func17, Try.ntmps17
 go_upto_region 1 with (first | ((with_reducible refine gd_ 1 rfl ?_); (try (refine gate_guard (by rfl) ?_; dsimp only)); refine bx_ 1 rfl #[.int .i64 a0_0, .int .i64 a0_1, .slice A0_2 l0_2.length c0_2] 25 ?_; intro b2 hg w3 hbox hb; have a4 := yaa (hbox); have e9 := yaa ((by rw [hg]; exact (below_size (upH HB.out)) : w.heap.size ≤ b2)); replace HB := yaa (below_step (upH HB.out) hb); have h4 := e9; clear hb hbox hg))
 (try simp only [Act.put, List.setIfInBounds_toArray, List.set_cons_zero, List.set_cons_succ])
 go_cut [25] (fun v25 wc => ∃ (kq : Nat) (b4 : Bool), v25 = .bool b4 ∧ Aside0 (impl_RasOk.j0 kq b4 a0_0 a0_1 l0_2 = some r) ∧ Aside0 (kq ≤ k) ∧ Aside0 (wc.heap[b2]? = some (.cells #[.int .i64 a0_0, .int .i64 a0_1, (.slice A0_2 l0_2.length c0_2)] 25 (0, 0))) ∧ Aside0 (Below w.heap.size w wc))
 case first =>
  have H := HC2.out; clear HC2; obtain ⟨e5, A4, H⟩ := bindA H; (try dsimp only at H)
  by_cases c5 : e5 = true
  ·
   subst c5
   rw [if_pos rfl] at H
   obtain ⟨e6, A6, H⟩ := bindA H; (try dsimp only at H)
   by_cases c7 : e6 = true
   ·
    subst c7
    rw [if_pos rfl] at H
    have H' := yaa H; clear H; obtain ⟨c2, c3, c6⟩ := cc3_ a4.out; obtain ⟨c8, c9, d0⟩ := cf3_ a4.out
    go_wp2_with (first | ((with_reducible refine gc_ 42 rfl ?_); refine gl_ (some 7) rfl Try.func42 #[.int .i64 a0_0] ?_; (with_reducible refine (impl_sizeOk.calls a0_0 true _ A4.out).mono ?_); rintro e w' ⟨rfl, ⟨nd, rfl⟩⟩; refine ⟨_, rfl, ?_⟩) | (go_at_call 42; (with_reducible refine (impl_sizeOk.calls a0_1 true _ A6.out).mono ?_); rintro e w' ⟨rfl, ⟨nd, rfl⟩⟩))
    go_meet
    case rel => exact ⟨_, (((l0_2.length : Int) != (wrap64 (a0_0 * a0_1)))), (by first | rfl | (simp; done) | (simp [*]; done)), H', ⟨by first | omega | exact Nat.le_refl _⟩, ⟨by exact upB a4.out⟩, ⟨by repeat (with_reducible first | exact HB.out | apply yac | apply yab | apply yad | refine below_set ?_ (Aside0.out ‹_›))⟩⟩
   ·
    replace c7 := Bool.eq_false_iff.mpr c7
    subst c7
    rw [if_neg (show ¬ (false = true) by decide)] at H
    have H' := yaa H; clear H; obtain ⟨d2, d3, d4⟩ := cc3_ a4.out; obtain ⟨d5, d6, d7⟩ := cf3_ a4.out
    go_wp2_with (first | ((with_reducible refine gc_ 42 rfl ?_); refine gl_ (some 7) rfl Try.func42 #[.int .i64 a0_0] ?_; (with_reducible refine (impl_sizeOk.calls a0_0 true _ A4.out).mono ?_); rintro e w' ⟨rfl, ⟨nd, rfl⟩⟩; refine ⟨_, rfl, ?_⟩) | (go_at_call 42; (with_reducible refine (impl_sizeOk.calls a0_1 false _ A6.out).mono ?_); rintro e w' ⟨rfl, ⟨nd, rfl⟩⟩))
    go_meet
    case rel => exact ⟨_, (true), (by first | rfl | (simp; done) | (simp [*]; done)), H', ⟨by first | omega | exact Nat.le_refl _⟩, ⟨by exact upB a4.out⟩, ⟨by repeat (with_reducible first | exact HB.out | apply yac | apply yab | apply yad | refine below_set ?_ (Aside0.out ‹_›))⟩⟩
  ·
   replace c5 := Bool.eq_false_iff.mpr c5
   subst c5
   rw [if_neg (show ¬ (false = true) by decide)] at H
   have H' := yaa H; clear H; obtain ⟨b5, b6, b7⟩ := cc3_ a4.out; obtain ⟨b8, b9, c0⟩ := cf3_ a4.out
   go_wp2_with (first | ((with_reducible refine gc_ 42 rfl ?_); refine gl_ (some 7) rfl Try.func42 #[.int .i64 a0_0] ?_; (with_reducible refine (impl_sizeOk.calls a0_0 false _ A4.out).mono ?_); rintro e w' ⟨rfl, ⟨nd, rfl⟩⟩; refine ⟨_, rfl, ?_⟩))
   go_meet
   case rel => exact ⟨_, (true), (by first | rfl | (simp; done) | (simp [*]; done)), H', ⟨by first | omega | exact Nat.le_refl _⟩, ⟨by exact upB a4.out⟩, ⟨by repeat (with_reducible first | exact HB.out | apply yac | apply yab | apply yad | refine below_set ?_ (Aside0.out ‹_›))⟩⟩
 case rest =>
  clear HC2; (try clear c1); (try clear p2); (try clear c4); (try clear c5); (try clear p6); (try clear c7); (try clear b5); (try clear b6); (try clear b7); (try clear c2); (try clear c3); (try clear c6); (try clear d2); (try clear d3); (try clear d4); (try clear b8); (try clear b9); (try clear c0); (try clear c8); (try clear c9); (try clear d0); (try clear d5); (try clear d6); (try clear d7); obtain ⟨kq, b4, rfl, HA, HJ1, a4, HB⟩ := hcut
  cases kq with
  | zero => exact absurd HA.out (by simp [impl_RasOk.j0])
  | succ kj1 =>
   have H := HA.out; clear HA
   simp only [impl_RasOk.j0] at H
   by_cases c11 : b4 = true
   ·
    subst c11
    rw [if_pos rfl] at H
    obtain rfl := Option.some.inj H
    go_wp2
    go_ret
    exact ⟨by first | rfl | (simp [*, errW_none, errW_some] <;> rfl), by repeat (with_reducible first | exact HB.out | apply yac | apply yab | apply yad | refine below_set ?_ (Aside0.out ‹_›))⟩
   ·
    replace c11 := Bool.eq_false_iff.mpr c11
    subst c11
    rw [if_neg (show ¬ (false = true) by decide)] at H
    have H' := yaa H; clear H; obtain ⟨d9, e0, e1⟩ := cc3_ a4.out; obtain ⟨e2, e3, e4⟩ := cf3_ a4.out
    go_wp2
    (try simp only [Act.put, List.setIfInBounds_toArray, List.set_cons_zero, List.set_cons_succ])
    go_loopg [29] kj1 (fun kq v29 w' => ∃ (a3 : Int), v29 = .int .i64 a3 ∧ Aside0 (impl_RasOk.l0 kq l0_2 (l0_2.length : Int) a3 = some r) ∧ Aside0 (kq ≤ kj1) ∧ Aside0 (w'.heap[b2]? = some (.cells #[.int .i64 a0_0, .int .i64 a0_1, (.slice A0_2 l0_2.length c0_2)] 25 (0, 0))) ∧ Aside0 (Below w.heap.size w w'))
    case atStart => exact ⟨(0), (by first | rfl | (simp; done) | (simp [*]; done)), H', ⟨Nat.le_refl _⟩, ⟨by exact upB a4.out⟩, ⟨by repeat (with_reducible first | exact HB.out | apply yac | apply yab | apply yad | refine below_set ?_ (Aside0.out ‹_›))⟩⟩
    case round =>
     clear H'; (try clear c1); (try clear p2); (try clear c4); (try clear c5); (try clear p6); (try clear c7); (try clear c11); (try clear b5); (try clear b6); (try clear b7); (try clear d9); (try clear e0); (try clear e1); (try clear c2); (try clear c3); (try clear c6); (try clear d2); (try clear d3); (try clear d4); (try clear b8); (try clear b9); (try clear c0); (try clear e2); (try clear e3); (try clear e4); (try clear c8); (try clear c9); (try clear d0); (try clear d5); (try clear d6); (try clear d7); (try clear p2); (try clear p6); obtain ⟨a3, rfl, HA, HK2, a4, HB⟩ := hrel
     cases gk with
     | zero => exact absurd HA.out (by simp [impl_RasOk.l0])
     | succ k2 =>
      have H := HA.out; clear HA
      simp only [impl_RasOk.l0] at H
      by_cases c13 : a3 < (l0_2.length : Int)
      ·
       rw [if_pos c13] at H
       have f4 : decide (a3 < (l0_2.length : Int)) = true := decide_eq_true c13; clear c13
       by_cases c14 : 0 ≤ a3
       ·
        rw [if_pos c14] at H
        replace c14 := decide_eq_true c14
        by_cases c15 : a3 < (l0_2.length : Int)
        ·
         rw [if_pos c15] at H
         replace c15 := decide_eq_true c15; obtain ⟨h2, A16, H⟩ := bindA H; (try dsimp only at H)
         by_cases c17 : h2 = true
         ·
          subst c17
          rw [if_pos rfl] at H
          have H' := yaa H; clear H; have p104 : 0 ≤ (a3 : Int) := of_decide_eq_true (by assumption); have q104 : a3 < (l0_2.length : Int) := of_decide_eq_true (by assumption); obtain ⟨ad104, e8, a7, a8, a9, b0⟩ := at_T36 HR0_2.out a3 p104 q104
          cases e8
          replace a7 := upc_ HB.out a7; replace a8 := upc_ HB.out a8; replace a9 := upc_ HB.out a9; replace b0 := upc_ HB.out b0; replace p104 := eq_true p104; replace q104 := eq_true q104
          go_wp2_with (first | ((with_reducible refine gd_ 4 rfl ?_); (try (refine gate_guard (by rfl) ?_; dsimp only)); refine bx_ 4 rfl #[.int .i64 0, .int .i64 0, .int .i64 0, .int .i64 0] 36 ?_; intro b3 hg w18 hbox hb; have a6 := yaa (hbox); have d8 := yaa ((by rw [hg]; exact (below_size (by repeat (with_reducible first | exact HB.out | apply yac | apply yab | apply yad | refine below_set ?_ (Aside0.out ‹_›)))) : w.heap.size ≤ b3)); replace HB := yaa (below_step (by repeat (with_reducible first | exact HB.out | apply yac | apply yab | apply yad | refine below_set ?_ (Aside0.out ‹_›))) hb); have f5 := d8; have a5 := yaa ((by rw [hg]; exact Nat.ne_of_lt (blk_lt (upB a4.out)) : b2 ≠ b3)); replace a4 := yaa (blk_below (upB a4.out) hb); have b1 := yaa a5.out.symm; clear hb hbox hg; have h5 := b1.out; have h6 := a5.out; obtain ⟨f6, f7, f8, f9⟩ := cc4_ a6.out; obtain ⟨g0, g1, g2⟩ := cf3_ a6.out; have g3 := blk_frozen a6.out 3) | ((with_reducible refine gc_ 40 rfl ?_); refine gl_ (some 34) rfl Try.func40 #[.agg #[.int .i64 ((yae l0_2 a3).f0), .int .i64 ((yae l0_2 a3).f1), .int .i64 ((yae l0_2 a3).f2), .int .i64 ((yae l0_2 a3).f3)]] ?_; (with_reducible refine (impl_PixOk.calls ((yae l0_2 a3).f0) ((yae l0_2 a3).f1) ((yae l0_2 a3).f2) ((yae l0_2 a3).f3) true _ A16.out).mono ?_); rintro e w21 ⟨rfl, hb⟩; refine ⟨_, rfl, ?_⟩; replace a4 := yaa (blk_below (g := b2) (o := .cells #[.int .i64 a0_0, .int .i64 a0_1, .slice (some ad104) l0_2.length c0_2] 25 (0, 0)) (by repeat (with_reducible first | exact a4.out | refine oneB ?_ | refine blk_far ?_ a5.out _)) hb); replace a6 := yaa (blk_below (g := b3) (o := .cells #[.int .i64 ((yae l0_2 a3).f0), .int .i64 ((yae l0_2 a3).f1), .int .i64 ((yae l0_2 a3).f2), .int .i64 ((yae l0_2 a3).f3)] 36 (0, 0)) (by (repeat refine oneB ?_); refine blk_put (cs := #[.int .i64 ((yae l0_2 a3).f0), .int .i64 ((yae l0_2 a3).f1), .int .i64 ((yae l0_2 a3).f2), .int .i64 0]) ?_ 3 _ rfl; refine blk_put (cs := #[.int .i64 ((yae l0_2 a3).f0), .int .i64 ((yae l0_2 a3).f1), .int .i64 0, .int .i64 0]) ?_ 2 _ rfl; refine blk_put (cs := #[.int .i64 ((yae l0_2 a3).f0), .int .i64 0, .int .i64 0, .int .i64 0]) ?_ 1 _ rfl; refine blk_put (cs := #[.int .i64 0, .int .i64 0, .int .i64 0, .int .i64 0]) ?_ 0 _ rfl; exact upB a6.out) hb); replace HB := yaa (below_step (by repeat (with_reducible first | exact HB.out | apply yac | apply yab | apply yad | refine below_set ?_ (Aside0.out ‹_›))) hb); (try clear hb)))
          go_roundg k2
          case measure => have := HJ1.out; have := HK2.out; omega
          case rel => exact ⟨(wrap64 (a3 + 1)), (by first | rfl | (simp; done) | (simp [*]; done)), H', ⟨by have := HJ1.out; have := HK2.out; omega⟩, ⟨by exact upB a4.out⟩, ⟨by repeat (with_reducible first | exact HB.out | apply yac | apply yab | apply yad | refine below_set ?_ (Aside0.out ‹_›))⟩⟩
         ·
          replace c17 := Bool.eq_false_iff.mpr c17
          subst c17
          rw [if_neg (show ¬ (false = true) by decide)] at H
          obtain rfl := Option.some.inj H; have p104 : 0 ≤ (a3 : Int) := of_decide_eq_true (by assumption); have q104 : a3 < (l0_2.length : Int) := of_decide_eq_true (by assumption); obtain ⟨ad104, e8, a7, a8, a9, b0⟩ := at_T36 HR0_2.out a3 p104 q104
          cases e8
          replace a7 := upc_ HB.out a7; replace a8 := upc_ HB.out a8; replace a9 := upc_ HB.out a9; replace b0 := upc_ HB.out b0; replace p104 := eq_true p104; replace q104 := eq_true q104
          go_wp2_with (first | ((with_reducible refine gd_ 4 rfl ?_); (try (refine gate_guard (by rfl) ?_; dsimp only)); refine bx_ 4 rfl #[.int .i64 0, .int .i64 0, .int .i64 0, .int .i64 0] 36 ?_; intro b3 hg w22 hbox hb; have a6 := yaa (hbox); have d8 := yaa ((by rw [hg]; exact (below_size (by repeat (with_reducible first | exact HB.out | apply yac | apply yab | apply yad | refine below_set ?_ (Aside0.out ‹_›)))) : w.heap.size ≤ b3)); replace HB := yaa (below_step (by repeat (with_reducible first | exact HB.out | apply yac | apply yab | apply yad | refine below_set ?_ (Aside0.out ‹_›))) hb); have f5 := d8; have a5 := yaa ((by rw [hg]; exact Nat.ne_of_lt (blk_lt (upB a4.out)) : b2 ≠ b3)); replace a4 := yaa (blk_below (upB a4.out) hb); have b1 := yaa a5.out.symm; clear hb hbox hg; have h7 := b1.out; have h8 := a5.out; obtain ⟨g4, g5, g6, g7⟩ := cc4_ a6.out; obtain ⟨g8, g9, h0⟩ := cf3_ a6.out; have h1 := blk_frozen a6.out 3) | ((with_reducible refine gc_ 40 rfl ?_); refine gl_ (some 34) rfl Try.func40 #[.agg #[.int .i64 ((yae l0_2 a3).f0), .int .i64 ((yae l0_2 a3).f1), .int .i64 ((yae l0_2 a3).f2), .int .i64 ((yae l0_2 a3).f3)]] ?_; (with_reducible refine (impl_PixOk.calls ((yae l0_2 a3).f0) ((yae l0_2 a3).f1) ((yae l0_2 a3).f2) ((yae l0_2 a3).f3) false _ A16.out).mono ?_); rintro e w25 ⟨rfl, hb⟩; refine ⟨_, rfl, ?_⟩; replace a4 := yaa (blk_below (g := b2) (o := .cells #[.int .i64 a0_0, .int .i64 a0_1, .slice (some ad104) l0_2.length c0_2] 25 (0, 0)) (by repeat (with_reducible first | exact a4.out | refine oneB ?_ | refine blk_far ?_ a5.out _)) hb); replace a6 := yaa (blk_below (g := b3) (o := .cells #[.int .i64 ((yae l0_2 a3).f0), .int .i64 ((yae l0_2 a3).f1), .int .i64 ((yae l0_2 a3).f2), .int .i64 ((yae l0_2 a3).f3)] 36 (0, 0)) (by (repeat refine oneB ?_); refine blk_put (cs := #[.int .i64 ((yae l0_2 a3).f0), .int .i64 ((yae l0_2 a3).f1), .int .i64 ((yae l0_2 a3).f2), .int .i64 0]) ?_ 3 _ rfl; refine blk_put (cs := #[.int .i64 ((yae l0_2 a3).f0), .int .i64 ((yae l0_2 a3).f1), .int .i64 0, .int .i64 0]) ?_ 2 _ rfl; refine blk_put (cs := #[.int .i64 ((yae l0_2 a3).f0), .int .i64 0, .int .i64 0, .int .i64 0]) ?_ 1 _ rfl; refine blk_put (cs := #[.int .i64 0, .int .i64 0, .int .i64 0, .int .i64 0]) ?_ 0 _ rfl; exact upB a6.out) hb); replace HB := yaa (below_step (by repeat (with_reducible first | exact HB.out | apply yac | apply yab | apply yad | refine below_set ?_ (Aside0.out ‹_›))) hb); (try clear hb)))
          go_ret
          exact ⟨by first | rfl | (simp [*, errW_none, errW_some] <;> rfl), by repeat (with_reducible first | exact HB.out | apply yac | apply yab | apply yad | refine below_set ?_ (Aside0.out ‹_›))⟩
        ·
         rw [if_neg c15] at H
         exact absurd H (by simp)
       ·
        rw [if_neg c14] at H
        exact absurd H (by simp)
      ·
       rw [if_neg c13] at H
       have f4 : decide (a3 < (l0_2.length : Int)) = false := decide_eq_false c13; clear c13; obtain rfl := Option.some.inj H
       go_wp2
       go_ret
       exact ⟨by first | rfl | (simp [*, errW_none, errW_some] <;> rfl), by repeat (with_reducible first | exact HB.out | apply yac | apply yab | apply yad | refine below_set ?_ (Aside0.out ‹_›))⟩
end
section
theorem eqA27 (d : Nat) (w : World) (x0 y0 : Int) (x1 y1 : Int) (x2 y2 : Int) (x3 y3 : Int) (x4 y4 : Int) :
    (Op.equalIn (d + 2) 27 (.agg #[.int .i64 x0, .int .i64 x1, .int .i64 x2, .int .i64 x3, .int .i64 x4]) (.agg #[.int .i64 y0, .int .i64 y1, .int .i64 y2, .int .i64 y3, .int .i64 y4])).run Try.prog w = .ok (x0 == y0 && (x1 == y1 && (x2 == y2 && (x3 == y3 && (x4 == y4))))) w := by
  refine eqA_of Try.underlying27 (by kernel_rfl) ?_
  refine eqf_cons (by rfl) (by go_simp; rfl) (by go_simp; rfl) (by go_simp) ?_
  refine eqf_cons (by rfl) (by go_simp; rfl) (by go_simp; rfl) (by go_simp) ?_
  refine eqf_cons (by rfl) (by go_simp; rfl) (by go_simp; rfl) (by go_simp) ?_
  refine eqf_cons (by rfl) (by go_simp; rfl) (by go_simp; rfl) (by go_simp) ?_
  exact eqf_last (by rfl) (by go_simp; rfl) (by go_simp; rfl) (by go_simp)
end
section
def impl_within.f (a0 : Int) (a1 : Int) (a2 : Int) : Option (Bool) := if a0 ≥ a1 then (some (decide (a0 ≤ a2))) else (some false)
set_option maxHeartbeats 8000000 in
set_option maxRecDepth 100000 in
theorem impl_within.calls (a0 : Int) (a1 : Int) (a2 : Int) (r : Bool) (w : World) (h : impl_within.f a0 a1 a2 = some r) :
    Calls Try.prog 59 #[.int .i64 a0, .int .i64 a1, .int .i64 a2] w fun e w' => e = .returned (.bool r) ∧ Drawn0 w w' := by
  have H : (if a0 ≥ a1 then (some (decide (a0 ≤ a2))) else (some false)) = some r := h; clear h
  by_cases c4 : a0 ≥ a1
  · rw [if_pos c4] at H
    have c4b0 : decide (a1 ≤ a0) = true := decide_eq_true c4; clear c4; obtain rfl := Option.some.inj H
    go_enter Try.func59, Try.ntmps59
    go_wp2
    go_ret
    exact ⟨by first | rfl | (simp; done) | (simp [*]; done), by repeat (first | exact Drawn0.refl _ | apply Drawn0.step)⟩
  · rw [if_neg c4] at H
    have c4b0 : decide (a1 ≤ a0) = false := decide_eq_false c4; clear c4; obtain rfl := Option.some.inj H
    go_enter Try.func59, Try.ntmps59
    go_wp2
    go_ret
    exact ⟨by first | rfl | (simp; done) | (simp [*]; done), by repeat (first | exact Drawn0.refl _ | apply Drawn0.step)⟩
end
section
attribute [local go_sem high] eqA27
open Go.Proofs.YtoifpgkfpdeglaaW.PrintWords renaming pw_below_drewN → yaa, below_alloc → yab, below_drew1 → yac, below_set → yae
open Go.Proofs.YtoifpgkfpdeglaaW.PrintWords.Aside0 renaming mk → yad
def impl_OpOk.j0 : Nat → Int → Bool → Int → Int → Int → Int → Int → Option (Bool)
 | 0, _, _, _, _, _, _, _ => none
 | k + 1, x4, x25, x102000, x102001, x102002, x102003, x102004 => if x25 = true then (some (x102001 == 0 && (x102002 == 0 && (x102003 == 0 && (x102004 == 0))))) else (if x4 = 7 then ((impl_sizeOk.f x102001).bind fun t106 => (if t106 = true then ((impl_sizeOk.f x102002).bind fun t107 => (if t107 = true then (if x102003 = 0 then (some (x102004 == 0)) else (some false)) else (some false))) else (some false))) else (if x4 = 8 then ((impl_partOk.f x102001).bind fun t108 => (if t108 = true then ((impl_partOk.f x102002).bind fun t109 => (if t109 = true then ((impl_partOk.f x102003).bind fun t110 => (if t110 = true then (some (x102004 == 0)) else (some false))) else (some false))) else (some false))) else (some false)))
def impl_OpOk.f (k : Nat) (a0_0 : Int) (a0_1 : Int) (a0_2 : Int) (a0_3 : Int) (a0_4 : Int) : Option (Bool) := if a0_0 = 1 then ((impl_within.f a0_1 0 5).bind fun t102 => (if t102 = true then ((impl_within.f a0_2 0 5).bind fun t103 => (if t103 = true then ((impl_sizeOk.f a0_3).bind fun t104 => (if t104 = true then ((impl_sizeOk.f a0_4).bind fun t105 => (some t105)) else (some false))) else (some false))) else (some false))) else (if a0_0 = 2 then (impl_OpOk.j0 k a0_0 (a0_0 == 2) a0_0 a0_1 a0_2 a0_3 a0_4) else (if a0_0 = 3 then (impl_OpOk.j0 k a0_0 (a0_0 == 3) a0_0 a0_1 a0_2 a0_3 a0_4) else (if a0_0 = 4 then (impl_OpOk.j0 k a0_0 (a0_0 == 4) a0_0 a0_1 a0_2 a0_3 a0_4) else (if a0_0 = 5 then (impl_OpOk.j0 k a0_0 (a0_0 == 5) a0_0 a0_1 a0_2 a0_3 a0_4) else (impl_OpOk.j0 k a0_0 (a0_0 == 6) a0_0 a0_1 a0_2 a0_3 a0_4)))))
set_option maxHeartbeats 8000000 in
set_option maxRecDepth 100000 in
theorem impl_OpOk.calls (k : Nat) (a0_0 : Int) (a0_1 : Int) (a0_2 : Int) (a0_3 : Int) (a0_4 : Int) (r : Bool) (w : World) (h : impl_OpOk.f k a0_0 a0_1 a0_2 a0_3 a0_4 = some r) :
  Calls Try.prog 36 #[.agg #[.int .i64 a0_0, .int .i64 a0_1, .int .i64 a0_2, .int .i64 a0_3, .int .i64 a0_4]] w fun e w' => e = .returned (.bool r) ∧ Below w.heap.size w w' := by
 have hu27 := Try.underlying27; have HB := yad (Below.refl w.heap.size w); have H : (if a0_0 = 1 then ((impl_within.f a0_1 0 5).bind fun h7 => (if h7 = true then ((impl_within.f a0_2 0 5).bind fun h8 => (if h8 = true then ((impl_sizeOk.f a0_3).bind fun h9 => (if h9 = true then ((impl_sizeOk.f a0_4).bind fun i0 => (some i0)) else (some false))) else (some false))) else (some false))) else (if a0_0 = 2 then (impl_OpOk.j0 k a0_0 (a0_0 == 2) a0_0 a0_1 a0_2 a0_3 a0_4) else (if a0_0 = 3 then (impl_OpOk.j0 k a0_0 (a0_0 == 3) a0_0 a0_1 a0_2 a0_3 a0_4) else (if a0_0 = 4 then (impl_OpOk.j0 k a0_0 (a0_0 == 4) a0_0 a0_1 a0_2 a0_3 a0_4) else (if a0_0 = 5 then (impl_OpOk.j0 k a0_0 (a0_0 == 5) a0_0 a0_1 a0_2 a0_3 a0_4) else (impl_OpOk.j0 k a0_0 (a0_0 == 6) a0_0 a0_1 a0_2 a0_3 a0_4)))))) = some r := h; clear h
 by_cases c2 : a0_0 = 1
 ·
  rw [if_pos c2] at H
  have i1 := beq_iff_eq.mpr c2; have i2 := bne_eq_false_iff_eq.mpr c2; clear c2; obtain ⟨h7, A3, H⟩ := bindA H; (try dsimp only at H)
  by_cases c4 : h7 = true
  ·
   subst c4
   rw [if_pos rfl] at H
   obtain ⟨h8, A5, H⟩ := bindA H; (try dsimp only at H)
   by_cases c6 : h8 = true
   ·
    subst c6
    rw [if_pos rfl] at H
    obtain ⟨h9, A7, H⟩ := bindA H; (try dsimp only at H)
    by_cases c8 : h9 = true
    ·
     subst c8
     rw [if_pos rfl] at H
     obtain ⟨i0, A9, H⟩ := bindA H; (try dsimp only at H); obtain rfl := Option.some.inj H
     go_enter Try.func36, Try.ntmps36
     go_wp2_with (first | ((with_reducible refine gd_ 1 rfl ?_); refine bx_ 1 rfl #[.int .i64 a0_0, .int .i64 a0_1, .int .i64 a0_2, .int .i64 a0_3, .int .i64 a0_4] 27 ?_; intro a6 hg w10 hbox hb; have a5 := yad (hbox); have a7 := yad ((by rw [hg]; exact (below_size (upH HB.out)) : w.heap.size ≤ a6)); replace HB := yad (below_step (upH HB.out) hb); have b2 := a7; clear hb hbox hg; obtain ⟨b3, b4, b5, b6, b7⟩ := cc5_ a5.out; obtain ⟨b8, b9, c0, c1⟩ := cf4_ a5.out; have c9 := blk_frozen a5.out 4) | ((with_reducible refine gc_ 59 rfl ?_); refine gl_ (some 9) rfl Try.func59 #[.int .i64 a0_1, .int .i64 0, .int .i64 5] ?_; (with_reducible refine (impl_within.calls a0_1 0 5 true _ A3.out).mono ?_); rintro e w' ⟨rfl, ⟨nd, rfl⟩⟩; refine ⟨_, rfl, ?_⟩) | (go_at_call 59; (with_reducible refine (impl_within.calls a0_2 0 5 true _ A5.out).mono ?_); rintro e w' ⟨rfl, ⟨nd, rfl⟩⟩) | (go_at_call 42; (with_reducible refine (impl_sizeOk.calls a0_3 true _ A7.out).mono ?_); rintro e w' ⟨rfl, ⟨nd, rfl⟩⟩) | (go_at_call 42; (with_reducible refine (impl_sizeOk.calls a0_4 i0 _ A9.out).mono ?_); rintro e w' ⟨rfl, ⟨nd, rfl⟩⟩))
     go_ret
     exact ⟨by first | rfl | (simp [*, errW_none, errW_some] <;> rfl), by repeat (with_reducible first | exact HB.out | apply yab | apply yaa | apply yac | refine yae ?_ (Aside0.out ‹_›))⟩
    ·
     replace c8 := Bool.eq_false_iff.mpr c8
     subst c8
     rw [if_neg (show ¬ (false = true) by decide)] at H
     obtain rfl := Option.some.inj H
     go_enter Try.func36, Try.ntmps36
     go_wp2_with (first | ((with_reducible refine gd_ 1 rfl ?_); refine bx_ 1 rfl #[.int .i64 a0_0, .int .i64 a0_1, .int .i64 a0_2, .int .i64 a0_3, .int .i64 a0_4] 27 ?_; intro a6 hg w12 hbox hb; have a5 := yad (hbox); have a7 := yad ((by rw [hg]; exact (below_size (upH HB.out)) : w.heap.size ≤ a6)); replace HB := yad (below_step (upH HB.out) hb); have b2 := a7; clear hb hbox hg; obtain ⟨d0, d1, d2, d3, d4⟩ := cc5_ a5.out; obtain ⟨d5, d6, d7, d8⟩ := cf4_ a5.out; have d9 := blk_frozen a5.out 4) | ((with_reducible refine gc_ 59 rfl ?_); refine gl_ (some 9) rfl Try.func59 #[.int .i64 a0_1, .int .i64 0, .int .i64 5] ?_; (with_reducible refine (impl_within.calls a0_1 0 5 true _ A3.out).mono ?_); rintro e w' ⟨rfl, ⟨nd, rfl⟩⟩; refine ⟨_, rfl, ?_⟩) | (go_at_call 59; (with_reducible refine (impl_within.calls a0_2 0 5 true _ A5.out).mono ?_); rintro e w' ⟨rfl, ⟨nd, rfl⟩⟩) | (go_at_call 42; (with_reducible refine (impl_sizeOk.calls a0_3 false _ A7.out).mono ?_); rintro e w' ⟨rfl, ⟨nd, rfl⟩⟩))
     go_ret
     exact ⟨by first | rfl | (simp [*, errW_none, errW_some] <;> rfl), by repeat (with_reducible first | exact HB.out | apply yab | apply yaa | apply yac | refine yae ?_ (Aside0.out ‹_›))⟩
   ·
    replace c6 := Bool.eq_false_iff.mpr c6
    subst c6
    rw [if_neg (show ¬ (false = true) by decide)] at H
    obtain rfl := Option.some.inj H
    go_enter Try.func36, Try.ntmps36
    go_wp2_with (first | ((with_reducible refine gd_ 1 rfl ?_); refine bx_ 1 rfl #[.int .i64 a0_0, .int .i64 a0_1, .int .i64 a0_2, .int .i64 a0_3, .int .i64 a0_4] 27 ?_; intro a6 hg w14 hbox hb; have a5 := yad (hbox); have a7 := yad ((by rw [hg]; exact (below_size (upH HB.out)) : w.heap.size ≤ a6)); replace HB := yad (below_step (upH HB.out) hb); have b2 := a7; clear hb hbox hg; obtain ⟨e0, e1, e2, e3, e4⟩ := cc5_ a5.out; obtain ⟨e5, e6, e7, e8⟩ := cf4_ a5.out; have e9 := blk_frozen a5.out 4) | ((with_reducible refine gc_ 59 rfl ?_); refine gl_ (some 9) rfl Try.func59 #[.int .i64 a0_1, .int .i64 0, .int .i64 5] ?_; (with_reducible refine (impl_within.calls a0_1 0 5 true _ A3.out).mono ?_); rintro e w' ⟨rfl, ⟨nd, rfl⟩⟩; refine ⟨_, rfl, ?_⟩) | (go_at_call 59; (with_reducible refine (impl_within.calls a0_2 0 5 false _ A5.out).mono ?_); rintro e w' ⟨rfl, ⟨nd, rfl⟩⟩))
    go_ret
    exact ⟨by first | rfl | (simp [*, errW_none, errW_some] <;> rfl), by repeat (with_reducible first | exact HB.out | apply yab | apply yaa | apply yac | refine yae ?_ (Aside0.out ‹_›))⟩
  ·
   replace c4 := Bool.eq_false_iff.mpr c4
   subst c4
   rw [if_neg (show ¬ (false = true) by decide)] at H
   obtain rfl := Option.some.inj H
   go_enter Try.func36, Try.ntmps36
   go_wp2_with (first | ((with_reducible refine gd_ 1 rfl ?_); refine bx_ 1 rfl #[.int .i64 a0_0, .int .i64 a0_1, .int .i64 a0_2, .int .i64 a0_3, .int .i64 a0_4] 27 ?_; intro a6 hg w16 hbox hb; have a5 := yad (hbox); have a7 := yad ((by rw [hg]; exact (below_size (upH HB.out)) : w.heap.size ≤ a6)); replace HB := yad (below_step (upH HB.out) hb); have b2 := a7; clear hb hbox hg; obtain ⟨f0, f1, f2, f3, f4⟩ := cc5_ a5.out; obtain ⟨f5, f6, f7, f8⟩ := cf4_ a5.out; have f9 := blk_frozen a5.out 4) | ((with_reducible refine gc_ 59 rfl ?_); refine gl_ (some 9) rfl Try.func59 #[.int .i64 a0_1, .int .i64 0, .int .i64 5] ?_; (with_reducible refine (impl_within.calls a0_1 0 5 false _ A3.out).mono ?_); rintro e w' ⟨rfl, ⟨nd, rfl⟩⟩; refine ⟨_, rfl, ?_⟩))
   go_ret
   exact ⟨by first | rfl | (simp [*, errW_none, errW_some] <;> rfl), by repeat (with_reducible first | exact HB.out | apply yab | apply yaa | apply yac | refine yae ?_ (Aside0.out ‹_›))⟩
 ·
  rw [if_neg c2] at H
  have i1 := beq_eq_false_iff_ne.mpr c2; have i2 := bne_iff_ne.mpr c2; have HC18 := yad H; clear H
  go_enter Try.func36, Try.ntmps36
  go_upto_if 25 with (first | ((with_reducible refine gd_ 1 rfl ?_); refine bx_ 1 rfl #[.int .i64 a0_0, .int .i64 a0_1, .int .i64 a0_2, .int .i64 a0_3, .int .i64 a0_4] 27 ?_; intro a6 hg w19 hbox hb; have a5 := yad (hbox); have a7 := yad ((by rw [hg]; exact (below_size (upH HB.out)) : w.heap.size ≤ a6)); replace HB := yad (below_step (upH HB.out) hb); have b2 := a7; clear hb hbox hg; obtain ⟨g0, g1, g2, g3, g4⟩ := cc5_ a5.out; obtain ⟨g5, g6, g7, g8⟩ := cf4_ a5.out; have g9 := blk_frozen a5.out 4))
  (try simp only [Act.put, List.setIfInBounds_toArray, List.set_cons_zero, List.set_cons_succ])
  go_cut [25] (fun v25 wc => ∃ (kq : Nat) (b0 : Bool), v25 = .bool b0 ∧ Aside0 (impl_OpOk.j0 kq a0_0 b0 a0_0 a0_1 a0_2 a0_3 a0_4 = some r) ∧ Aside0 (kq ≤ k) ∧ Aside0 (wc.heap[a6]? = some (.cells #[.int .i64 a0_0, .int .i64 a0_1, .int .i64 a0_2, .int .i64 a0_3, .int .i64 a0_4] 27 (0, 0))) ∧ Aside0 (Below w.heap.size w wc))
  case first =>
   have H := HC18.out; clear HC18
   by_cases c21 : a0_0 = 2
   ·
    rw [if_pos c21] at H
    have a9 := beq_iff_eq.mpr c21; have h0 := bne_eq_false_iff_eq.mpr c21; clear c21
    (first | rw [a9] | (simp only [i64_w, i32_w]; rw [a9]) | skip)
    have H' := yad H; clear H
    go_wp2
    go_meet
    case rel => exact ⟨_, ((a0_0 == 2)), (by first | rfl | (simp; done) | (simp [*]; done)), H', ⟨by first | omega | exact Nat.le_refl _⟩, ⟨by exact upB a5.out⟩, ⟨by repeat (with_reducible first | exact HB.out | apply yab | apply yaa | apply yac | refine yae ?_ (Aside0.out ‹_›))⟩⟩
   ·
    rw [if_neg c21] at H
    have a9 := beq_eq_false_iff_ne.mpr c21; have h0 := bne_iff_ne.mpr c21
    (first | rw [a9] | (simp only [i64_w, i32_w]; rw [a9]) | skip)
    by_cases c22 : a0_0 = 3
    ·
     rw [if_pos c22] at H
     have h1 := beq_iff_eq.mpr c22; have h2 := bne_eq_false_iff_eq.mpr c22; clear c22; have H' := yad H; clear H
     go_wp2
     go_meet
     case rel => exact ⟨_, ((a0_0 == 3)), (by first | rfl | (simp; done) | (simp [*]; done)), H', ⟨by first | omega | exact Nat.le_refl _⟩, ⟨by exact upB a5.out⟩, ⟨by repeat (with_reducible first | exact HB.out | apply yab | apply yaa | apply yac | refine yae ?_ (Aside0.out ‹_›))⟩⟩
    ·
     rw [if_neg c22] at H
     have h1 := beq_eq_false_iff_ne.mpr c22; have h2 := bne_iff_ne.mpr c22
     by_cases c23 : a0_0 = 4
     ·
      rw [if_pos c23] at H
      have h3 := beq_iff_eq.mpr c23; have h4 := bne_eq_false_iff_eq.mpr c23; clear c23; have H' := yad H; clear H
      go_wp2
      go_meet
      case rel => exact ⟨_, ((a0_0 == 4)), (by first | rfl | (simp; done) | (simp [*]; done)), H', ⟨by first | omega | exact Nat.le_refl _⟩, ⟨by exact upB a5.out⟩, ⟨by repeat (with_reducible first | exact HB.out | apply yab | apply yaa | apply yac | refine yae ?_ (Aside0.out ‹_›))⟩⟩
     ·
      rw [if_neg c23] at H
      have h3 := beq_eq_false_iff_ne.mpr c23; have h4 := bne_iff_ne.mpr c23
      by_cases c24 : a0_0 = 5
      ·
       rw [if_pos c24] at H
       have h5 := beq_iff_eq.mpr c24; have h6 := bne_eq_false_iff_eq.mpr c24; clear c24; have H' := yad H; clear H
       go_wp2
       go_meet
       case rel => exact ⟨_, ((a0_0 == 5)), (by first | rfl | (simp; done) | (simp [*]; done)), H', ⟨by first | omega | exact Nat.le_refl _⟩, ⟨by exact upB a5.out⟩, ⟨by repeat (with_reducible first | exact HB.out | apply yab | apply yaa | apply yac | refine yae ?_ (Aside0.out ‹_›))⟩⟩
      ·
       rw [if_neg c24] at H
       have h5 := beq_eq_false_iff_ne.mpr c24; have h6 := bne_iff_ne.mpr c24; have H' := yad H; clear H
       go_wp2
       go_meet
       case rel => exact ⟨_, ((a0_0 == 6)), (by first | rfl | (simp; done) | (simp [*]; done)), H', ⟨by first | omega | exact Nat.le_refl _⟩, ⟨by exact upB a5.out⟩, ⟨by repeat (with_reducible first | exact HB.out | apply yab | apply yaa | apply yac | refine yae ?_ (Aside0.out ‹_›))⟩⟩
  case rest =>
   clear HC18; (try clear c2); (try clear i1); (try clear i2); (try clear p2); (try clear c3); (try clear c4); (try clear c5); (try clear c6); (try clear c8); (try clear c21); (try clear a9); (try clear h0); (try clear c22); (try clear h1); (try clear h2); (try clear c23); (try clear h3); (try clear h4); (try clear c24); (try clear h5); (try clear h6); (try clear b3); (try clear b4); (try clear b5); (try clear b6); (try clear b7); (try clear d0); (try clear d1); (try clear d2); (try clear d3); (try clear d4); (try clear e0); (try clear e1); (try clear e2); (try clear e3); (try clear e4); (try clear f0); (try clear f1); (try clear f2); (try clear f3); (try clear f4); (try clear g0); (try clear g1); (try clear g2); (try clear g3); (try clear g4); (try clear b8); (try clear b9); (try clear c0); (try clear c1); (try clear c9); (try clear d5); (try clear d6); (try clear d7); (try clear d8); (try clear d9); (try clear e5); (try clear e6); (try clear e7); (try clear e8); (try clear e9); (try clear f5); (try clear f6); (try clear f7); (try clear f8); (try clear f9); (try clear g5); (try clear g6); (try clear g7); (try clear g8); (try clear g9); obtain ⟨kq, b0, rfl, HA, HJ17, a5, HB⟩ := hcut
   cases kq with
   | zero => exact absurd HA.out (by simp [impl_OpOk.j0])
   | succ kj17 =>
    have H := HA.out; clear HA
    simp only [impl_OpOk.j0] at H
    by_cases c25 : b0 = true
    ·
     subst c25
     rw [if_pos rfl] at H
     obtain rfl := Option.some.inj H; obtain ⟨i9, j1, j2, j3, j4⟩ := cc5_ a5.out; obtain ⟨j5, j6, j7, j8, j9⟩ := cf5_ a5.out
     go_wp2
     go_ret
     exact ⟨by first | rfl | (simp [*, errW_none, errW_some] <;> rfl), by repeat (with_reducible first | exact HB.out | apply yab | apply yaa | apply yac | refine yae ?_ (Aside0.out ‹_›))⟩
    ·
     replace c25 := Bool.eq_false_iff.mpr c25
     subst c25
     rw [if_neg (show ¬ (false = true) by decide)] at H
     by_cases c27 : a0_0 = 7
     ·
      rw [if_pos c27] at H
      have i3 := beq_iff_eq.mpr c27; have i4 := bne_eq_false_iff_eq.mpr c27; clear c27; obtain ⟨s1, A28, H⟩ := bindA H; (try dsimp only at H)
      by_cases c29 : s1 = true
      ·
       subst c29
       rw [if_pos rfl] at H
       obtain ⟨s2, A30, H⟩ := bindA H; (try dsimp only at H)
       by_cases c31 : s2 = true
       ·
        subst c31
        rw [if_pos rfl] at H
        by_cases c32 : a0_3 = 0
        ·
         rw [if_pos c32] at H
         have i5 := beq_iff_eq.mpr c32; have i6 := bne_eq_false_iff_eq.mpr c32; clear c32; obtain rfl := Option.some.inj H; obtain ⟨k0, k1, k2, k3, k4⟩ := cc5_ a5.out; obtain ⟨k5, k6, k7, k8, k9⟩ := cf5_ a5.out
         go_wp2_with (first | ((with_reducible refine gc_ 42 rfl ?_); refine gl_ (some 40) rfl Try.func42 #[.int .i64 a0_1] ?_; (with_reducible refine (impl_sizeOk.calls a0_1 true _ A28.out).mono ?_); rintro e w' ⟨rfl, ⟨nd, rfl⟩⟩; refine ⟨_, rfl, ?_⟩) | (go_at_call 42; (with_reducible refine (impl_sizeOk.calls a0_2 true _ A30.out).mono ?_); rintro e w' ⟨rfl, ⟨nd, rfl⟩⟩))
         go_ret
         exact ⟨by first | rfl | (simp [*, errW_none, errW_some] <;> rfl), by repeat (with_reducible first | exact HB.out | apply yab | apply yaa | apply yac | refine yae ?_ (Aside0.out ‹_›))⟩
        ·
         rw [if_neg c32] at H
         have i5 := beq_eq_false_iff_ne.mpr c32; have i6 := bne_iff_ne.mpr c32; obtain rfl := Option.some.inj H; obtain ⟨l0, l1, l2, l3, l4⟩ := cc5_ a5.out; obtain ⟨l5, l6, l7, l8, l9⟩ := cf5_ a5.out
         go_wp2_with (first | ((with_reducible refine gc_ 42 rfl ?_); refine gl_ (some 40) rfl Try.func42 #[.int .i64 a0_1] ?_; (with_reducible refine (impl_sizeOk.calls a0_1 true _ A28.out).mono ?_); rintro e w' ⟨rfl, ⟨nd, rfl⟩⟩; refine ⟨_, rfl, ?_⟩) | (go_at_call 42; (with_reducible refine (impl_sizeOk.calls a0_2 true _ A30.out).mono ?_); rintro e w' ⟨rfl, ⟨nd, rfl⟩⟩))
         go_ret
         exact ⟨by first | rfl | (simp [*, errW_none, errW_some] <;> rfl), by repeat (with_reducible first | exact HB.out | apply yab | apply yaa | apply yac | refine yae ?_ (Aside0.out ‹_›))⟩
       ·
        replace c31 := Bool.eq_false_iff.mpr c31
        subst c31
        rw [if_neg (show ¬ (false = true) by decide)] at H
        obtain rfl := Option.some.inj H; obtain ⟨m0, m1, m2, m3, m4⟩ := cc5_ a5.out; obtain ⟨m5, m6, m7, m8, m9⟩ := cf5_ a5.out
        go_wp2_with (first | ((with_reducible refine gc_ 42 rfl ?_); refine gl_ (some 40) rfl Try.func42 #[.int .i64 a0_1] ?_; (with_reducible refine (impl_sizeOk.calls a0_1 true _ A28.out).mono ?_); rintro e w' ⟨rfl, ⟨nd, rfl⟩⟩; refine ⟨_, rfl, ?_⟩) | (go_at_call 42; (with_reducible refine (impl_sizeOk.calls a0_2 false _ A30.out).mono ?_); rintro e w' ⟨rfl, ⟨nd, rfl⟩⟩))
        go_ret
        exact ⟨by first | rfl | (simp [*, errW_none, errW_some] <;> rfl), by repeat (with_reducible first | exact HB.out | apply yab | apply yaa | apply yac | refine yae ?_ (Aside0.out ‹_›))⟩
      ·
       replace c29 := Bool.eq_false_iff.mpr c29
       subst c29
       rw [if_neg (show ¬ (false = true) by decide)] at H
       obtain rfl := Option.some.inj H; obtain ⟨n0, n1, n2, n3, n4⟩ := cc5_ a5.out; obtain ⟨n5, n6, n7, n8, n9⟩ := cf5_ a5.out
       go_wp2_with (first | ((with_reducible refine gc_ 42 rfl ?_); refine gl_ (some 40) rfl Try.func42 #[.int .i64 a0_1] ?_; (with_reducible refine (impl_sizeOk.calls a0_1 false _ A28.out).mono ?_); rintro e w' ⟨rfl, ⟨nd, rfl⟩⟩; refine ⟨_, rfl, ?_⟩))
       go_ret
       exact ⟨by first | rfl | (simp [*, errW_none, errW_some] <;> rfl), by repeat (with_reducible first | exact HB.out | apply yab | apply yaa | apply yac | refine yae ?_ (Aside0.out ‹_›))⟩
     ·
      rw [if_neg c27] at H
      have i3 := beq_eq_false_iff_ne.mpr c27; have i4 := bne_iff_ne.mpr c27
      by_cases c37 : a0_0 = 8
      ·
       rw [if_pos c37] at H
       have i7 := beq_iff_eq.mpr c37; have i8 := bne_eq_false_iff_eq.mpr c37; clear c37; obtain ⟨s3, A38, H⟩ := bindA H; (try dsimp only at H)
       by_cases c39 : s3 = true
       ·
        subst c39
        rw [if_pos rfl] at H
        obtain ⟨s4, A40, H⟩ := bindA H; (try dsimp only at H)
        by_cases c41 : s4 = true
        ·
         subst c41
         rw [if_pos rfl] at H
         obtain ⟨s5, A42, H⟩ := bindA H; (try dsimp only at H)
         by_cases c43 : s5 = true
         ·
          subst c43
          rw [if_pos rfl] at H
          obtain rfl := Option.some.inj H; obtain ⟨o0, o1, o2, o3, o4⟩ := cc5_ a5.out; obtain ⟨o5, o6, o7, o8, o9⟩ := cf5_ a5.out
          go_wp2_with (first | ((with_reducible refine gc_ 60 rfl ?_); refine gl_ (some 60) rfl Try.func60 #[.int .i64 a0_1] ?_; (with_reducible refine (impl_partOk.calls a0_1 true _ A38.out).mono ?_); rintro e w' ⟨rfl, ⟨nd, rfl⟩⟩; refine ⟨_, rfl, ?_⟩) | (go_at_call 60; (with_reducible refine (impl_partOk.calls a0_2 true _ A40.out).mono ?_); rintro e w' ⟨rfl, ⟨nd, rfl⟩⟩) | (go_at_call 60; (with_reducible refine (impl_partOk.calls a0_3 true _ A42.out).mono ?_); rintro e w' ⟨rfl, ⟨nd, rfl⟩⟩))
          go_ret
          exact ⟨by first | rfl | (simp [*, errW_none, errW_some] <;> rfl), by repeat (with_reducible first | exact HB.out | apply yab | apply yaa | apply yac | refine yae ?_ (Aside0.out ‹_›))⟩
         ·
          replace c43 := Bool.eq_false_iff.mpr c43
          subst c43
          rw [if_neg (show ¬ (false = true) by decide)] at H
          obtain rfl := Option.some.inj H; obtain ⟨p0, p1, p3, p4, p5⟩ := cc5_ a5.out; obtain ⟨p6, p7, p8, p9, q0⟩ := cf5_ a5.out
          go_wp2_with (first | ((with_reducible refine gc_ 60 rfl ?_); refine gl_ (some 60) rfl Try.func60 #[.int .i64 a0_1] ?_; (with_reducible refine (impl_partOk.calls a0_1 true _ A38.out).mono ?_); rintro e w' ⟨rfl, ⟨nd, rfl⟩⟩; refine ⟨_, rfl, ?_⟩) | (go_at_call 60; (with_reducible refine (impl_partOk.calls a0_2 true _ A40.out).mono ?_); rintro e w' ⟨rfl, ⟨nd, rfl⟩⟩) | (go_at_call 60; (with_reducible refine (impl_partOk.calls a0_3 false _ A42.out).mono ?_); rintro e w' ⟨rfl, ⟨nd, rfl⟩⟩))
          go_ret
          exact ⟨by first | rfl | (simp [*, errW_none, errW_some] <;> rfl), by repeat (with_reducible first | exact HB.out | apply yab | apply yaa | apply yac | refine yae ?_ (Aside0.out ‹_›))⟩
        ·
         replace c41 := Bool.eq_false_iff.mpr c41
         subst c41
         rw [if_neg (show ¬ (false = true) by decide)] at H
         obtain rfl := Option.some.inj H; obtain ⟨q1, q2, q3, q4, q5⟩ := cc5_ a5.out; obtain ⟨q6, q7, q8, q9, r0⟩ := cf5_ a5.out
         go_wp2_with (first | ((with_reducible refine gc_ 60 rfl ?_); refine gl_ (some 60) rfl Try.func60 #[.int .i64 a0_1] ?_; (with_reducible refine (impl_partOk.calls a0_1 true _ A38.out).mono ?_); rintro e w' ⟨rfl, ⟨nd, rfl⟩⟩; refine ⟨_, rfl, ?_⟩) | (go_at_call 60; (with_reducible refine (impl_partOk.calls a0_2 false _ A40.out).mono ?_); rintro e w' ⟨rfl, ⟨nd, rfl⟩⟩))
         go_ret
         exact ⟨by first | rfl | (simp [*, errW_none, errW_some] <;> rfl), by repeat (with_reducible first | exact HB.out | apply yab | apply yaa | apply yac | refine yae ?_ (Aside0.out ‹_›))⟩
       ·
        replace c39 := Bool.eq_false_iff.mpr c39
        subst c39
        rw [if_neg (show ¬ (false = true) by decide)] at H
        obtain rfl := Option.some.inj H; obtain ⟨r1, r2, r3, r4, r5⟩ := cc5_ a5.out; obtain ⟨r6, r7, r8, r9, s0⟩ := cf5_ a5.out
        go_wp2_with (first | ((with_reducible refine gc_ 60 rfl ?_); refine gl_ (some 60) rfl Try.func60 #[.int .i64 a0_1] ?_; (with_reducible refine (impl_partOk.calls a0_1 false _ A38.out).mono ?_); rintro e w' ⟨rfl, ⟨nd, rfl⟩⟩; refine ⟨_, rfl, ?_⟩))
        go_ret
        exact ⟨by first | rfl | (simp [*, errW_none, errW_some] <;> rfl), by repeat (with_reducible first | exact HB.out | apply yab | apply yaa | apply yac | refine yae ?_ (Aside0.out ‹_›))⟩
      ·
       rw [if_neg c37] at H
       have i7 := beq_eq_false_iff_ne.mpr c37; have i8 := bne_iff_ne.mpr c37; obtain rfl := Option.some.inj H
       go_wp2
       go_ret
       exact ⟨by first | rfl | (simp [*, errW_none, errW_some] <;> rfl), by repeat (with_reducible first | exact HB.out | apply yab | apply yaa | apply yac | refine yae ?_ (Aside0.out ‹_›))⟩
end
section
open Go.Proofs.Ytoifpgkfpdeglaa.X renaming rd_T27 → yaa
def impl_opsOk.l0 : Nat → List (S27) → Int → Int → Option (Bool)
 | 0, _, _, _ => none
 | k + 1, x8, x9, x10 => if x10 < x9 then (if 0 ≤ x10 then (if x10 < (x8.length : Int) then ((impl_OpOk.f k ((rd_T27 x8 x10).f0) ((rd_T27 x8 x10).f1) ((rd_T27 x8 x10).f2) ((rd_T27 x8 x10).f3) ((rd_T27 x8 x10).f4)).bind fun t103 => (if t103 = true then (impl_opsOk.l0 k x8 x9 (wrap64 (x10 + 1))) else (some false))) else (none)) else (none)) else (some true)
def impl_opsOk.f (k : Nat) (l0 : List (S27)) : Option (Bool) := if (l0.length : Int) > 5 then (some false) else (impl_opsOk.l0 k l0 (l0.length : Int) 0)
set_option maxHeartbeats 8000000 in
set_option maxRecDepth 100000 in
theorem impl_opsOk.calls (k : Nat) (A0 : Option Addr) (c0 : Nat) (l0 : List (S27)) (r : Bool) (w : World) (hr0 : Kd.C k27 w A0 l0.length l0) (hc0 : l0.length ≤ c0) (h : impl_opsOk.f k l0 = some r) :
  Calls Try.prog 51 #[.slice A0 l0.length c0] w fun e w' => e = .returned (.bool r) ∧ Below w.heap.size w w' := by
 have hu27 := Try.underlying27; have HR0 := Aside0.mk hr0; have HC0 := Aside0.mk hc0; clear hr0 hc0; have HB := Aside0.mk (Below.refl w.heap.size w); have H : (if (l0.length : Int) > 5 then (some false) else (impl_opsOk.l0 k l0 (l0.length : Int) 0)) = some r := h; clear h
 by_cases c2 : (l0.length : Int) > 5
 ·
  rw [if_pos c2] at H
  have b1 : decide (5 < (l0.length : Int)) = true := decide_eq_true c2; have b2 : decide (5 < l0.length) = true := decide_eq_true (by omega); clear c2; obtain rfl := Option.some.inj H
  go_enter Try.func51, Try.ntmps51
  go_wp2
  go_ret
  exact ⟨by first | rfl | (simp [*, errW_none, errW_some] <;> rfl), upH HB.out⟩
 ·
  rw [if_neg c2] at H
  have b1 : decide (5 < (l0.length : Int)) = false := decide_eq_false c2; have b2 : decide (5 < l0.length) = false := decide_eq_false (by omega); clear c2; have H' := Aside0.mk H; clear H
  go_enter Try.func51, Try.ntmps51
  go_wp2
  (try simp only [Act.put, List.setIfInBounds_toArray, List.set_cons_zero, List.set_cons_succ])
  go_loopg [10] k (fun kq v10 w' => ∃ (a1 : Int), v10 = .int .i64 a1 ∧ Aside0 (impl_opsOk.l0 kq l0 (l0.length : Int) a1 = some r) ∧ Aside0 (kq ≤ k) ∧ Aside0 (Below w.heap.size w w'))
  case atStart => exact ⟨(0), (by first | rfl | (simp; done) | (simp [*]; done)), H', ⟨Nat.le_refl _⟩, ⟨upH HB.out⟩⟩
  case round =>
   clear H'; (try clear c2); (try clear b1); (try clear b2); (try clear p2); obtain ⟨a1, rfl, HA, HK1, HB⟩ := hrel
   cases gk with
   | zero => exact absurd HA.out (by simp [impl_opsOk.l0])
   | succ k1 =>
    have H := HA.out; clear HA
    simp only [impl_opsOk.l0] at H
    by_cases c3 : a1 < (l0.length : Int)
    ·
     rw [if_pos c3] at H
     have d0 : decide (a1 < (l0.length : Int)) = true := decide_eq_true c3; clear c3
     by_cases c4 : 0 ≤ a1
     ·
      rw [if_pos c4] at H
      replace c4 := decide_eq_true c4
      by_cases c5 : a1 < (l0.length : Int)
      ·
       rw [if_pos c5] at H
       replace c5 := decide_eq_true c5; obtain ⟨d1, A6, H⟩ := bindA H; (try dsimp only at H)
       by_cases c7 : d1 = true
       ·
        subst c7
        rw [if_pos rfl] at H
        have H' := Aside0.mk H; clear H; have p101 : 0 ≤ (a1 : Int) := of_decide_eq_true (by assumption); have q101 : a1 < (l0.length : Int) := of_decide_eq_true (by assumption); obtain ⟨ad101, b0, a3, a4, a5, a6, a7⟩ := at_T27 HR0.out a1 p101 q101
        cases b0
        replace a3 := upc_ HB.out a3; replace a4 := upc_ HB.out a4; replace a5 := upc_ HB.out a5; replace a6 := upc_ HB.out a6; replace a7 := upc_ HB.out a7; replace p101 := eq_true p101; replace q101 := eq_true q101
        go_wp2_with (first | ((with_reducible refine gd_ 4 rfl ?_); refine bx_ 4 rfl #[.int .i64 0, .int .i64 0, .int .i64 0, .int .i64 0, .int .i64 0] 27 ?_; intro a8 hg w8 hbox hb; have a2 := Aside0.mk (hbox); have a9 := Aside0.mk ((by rw [hg]; exact (below_size (upH HB.out)) : w.heap.size ≤ a8)); replace HB := Aside0.mk (below_step (upH HB.out) hb); have b3 := a9; clear hb hbox hg; obtain ⟨d2, d3, d4, d5, d6⟩ := cc5_ a2.out; obtain ⟨d8, d9, e0, e1⟩ := cf4_ a2.out; have e3 := blk_frozen a2.out 4) | ((with_reducible refine gc_ 36 rfl ?_); refine gl_ (some 15) rfl Try.func36 #[.agg #[.int .i64 ((yaa l0 a1).f0), .int .i64 ((yaa l0 a1).f1), .int .i64 ((yaa l0 a1).f2), .int .i64 ((yaa l0 a1).f3), .int .i64 ((yaa l0 a1).f4)]] ?_; (with_reducible refine (impl_OpOk.calls k1 ((yaa l0 a1).f0) ((yaa l0 a1).f1) ((yaa l0 a1).f2) ((yaa l0 a1).f3) ((yaa l0 a1).f4) true _ A6.out).mono ?_); rintro e w10 ⟨rfl, hb⟩; refine ⟨_, rfl, ?_⟩; replace a2 := Aside0.mk (blk_below (g := a8) (o := .cells #[.int .i64 ((yaa l0 a1).f0), .int .i64 ((yaa l0 a1).f1), .int .i64 ((yaa l0 a1).f2), .int .i64 ((yaa l0 a1).f3), .int .i64 ((yaa l0 a1).f4)] 27 (0, 0)) (by (repeat refine oneB ?_); refine blk_put (cs := #[.int .i64 ((yaa l0 a1).f0), .int .i64 ((yaa l0 a1).f1), .int .i64 ((yaa l0 a1).f2), .int .i64 ((yaa l0 a1).f3), .int .i64 0]) ?_ 4 _ rfl; refine blk_put (cs := #[.int .i64 ((yaa l0 a1).f0), .int .i64 ((yaa l0 a1).f1), .int .i64 ((yaa l0 a1).f2), .int .i64 0, .int .i64 0]) ?_ 3 _ rfl; refine blk_put (cs := #[.int .i64 ((yaa l0 a1).f0), .int .i64 ((yaa l0 a1).f1), .int .i64 0, .int .i64 0, .int .i64 0]) ?_ 2 _ rfl; refine blk_put (cs := #[.int .i64 ((yaa l0 a1).f0), .int .i64 0, .int .i64 0, .int .i64 0, .int .i64 0]) ?_ 1 _ rfl; refine blk_put (cs := #[.int .i64 0, .int .i64 0, .int .i64 0, .int .i64 0, .int .i64 0]) ?_ 0 _ rfl; exact upB a2.out) hb); replace HB := Aside0.mk (below_step (by repeat (with_reducible first | exact HB.out | apply below_alloc | apply pw_below_drewN | apply below_drew1 | refine below_set ?_ (Aside0.out ‹_›))) hb); (try clear hb)))
        go_roundg k1
        case measure => have := HK1.out; omega
        case rel => exact ⟨(wrap64 (a1 + 1)), (by first | rfl | (simp; done) | (simp [*]; done)), H', ⟨by have := HK1.out; omega⟩, ⟨by repeat (with_reducible first | exact HB.out | apply below_alloc | apply pw_below_drewN | apply below_drew1 | refine below_set ?_ (Aside0.out ‹_›))⟩⟩
       ·
        replace c7 := Bool.eq_false_iff.mpr c7
        subst c7
        rw [if_neg (show ¬ (false = true) by decide)] at H
        obtain rfl := Option.some.inj H; have p101 : 0 ≤ (a1 : Int) := of_decide_eq_true (by assumption); have q101 : a1 < (l0.length : Int) := of_decide_eq_true (by assumption); obtain ⟨ad101, b0, a3, a4, a5, a6, a7⟩ := at_T27 HR0.out a1 p101 q101
        cases b0
        replace a3 := upc_ HB.out a3; replace a4 := upc_ HB.out a4; replace a5 := upc_ HB.out a5; replace a6 := upc_ HB.out a6; replace a7 := upc_ HB.out a7; replace p101 := eq_true p101; replace q101 := eq_true q101
        go_wp2_with (first | ((with_reducible refine gd_ 4 rfl ?_); refine bx_ 4 rfl #[.int .i64 0, .int .i64 0, .int .i64 0, .int .i64 0, .int .i64 0] 27 ?_; intro a8 hg w11 hbox hb; have a2 := Aside0.mk (hbox); have a9 := Aside0.mk ((by rw [hg]; exact (below_size (upH HB.out)) : w.heap.size ≤ a8)); replace HB := Aside0.mk (below_step (upH HB.out) hb); have b3 := a9; clear hb hbox hg; obtain ⟨b4, b5, b6, b7, b8⟩ := cc5_ a2.out; obtain ⟨b9, c1, c6, c8⟩ := cf4_ a2.out; have c9 := blk_frozen a2.out 4) | ((with_reducible refine gc_ 36 rfl ?_); refine gl_ (some 15) rfl Try.func36 #[.agg #[.int .i64 ((yaa l0 a1).f0), .int .i64 ((yaa l0 a1).f1), .int .i64 ((yaa l0 a1).f2), .int .i64 ((yaa l0 a1).f3), .int .i64 ((yaa l0 a1).f4)]] ?_; (with_reducible refine (impl_OpOk.calls k1 ((yaa l0 a1).f0) ((yaa l0 a1).f1) ((yaa l0 a1).f2) ((yaa l0 a1).f3) ((yaa l0 a1).f4) false _ A6.out).mono ?_); rintro e w13 ⟨rfl, hb⟩; refine ⟨_, rfl, ?_⟩; replace a2 := Aside0.mk (blk_below (g := a8) (o := .cells #[.int .i64 ((yaa l0 a1).f0), .int .i64 ((yaa l0 a1).f1), .int .i64 ((yaa l0 a1).f2), .int .i64 ((yaa l0 a1).f3), .int .i64 ((yaa l0 a1).f4)] 27 (0, 0)) (by (repeat refine oneB ?_); refine blk_put (cs := #[.int .i64 ((yaa l0 a1).f0), .int .i64 ((yaa l0 a1).f1), .int .i64 ((yaa l0 a1).f2), .int .i64 ((yaa l0 a1).f3), .int .i64 0]) ?_ 4 _ rfl; refine blk_put (cs := #[.int .i64 ((yaa l0 a1).f0), .int .i64 ((yaa l0 a1).f1), .int .i64 ((yaa l0 a1).f2), .int .i64 0, .int .i64 0]) ?_ 3 _ rfl; refine blk_put (cs := #[.int .i64 ((yaa l0 a1).f0), .int .i64 ((yaa l0 a1).f1), .int .i64 0, .int .i64 0, .int .i64 0]) ?_ 2 _ rfl; refine blk_put (cs := #[.int .i64 ((yaa l0 a1).f0), .int .i64 0, .int .i64 0, .int .i64 0, .int .i64 0]) ?_ 1 _ rfl; refine blk_put (cs := #[.int .i64 0, .int .i64 0, .int .i64 0, .int .i64 0, .int .i64 0]) ?_ 0 _ rfl; exact upB a2.out) hb); replace HB := Aside0.mk (below_step (by repeat (with_reducible first | exact HB.out | apply below_alloc | apply pw_below_drewN | apply below_drew1 | refine below_set ?_ (Aside0.out ‹_›))) hb); (try clear hb)))
        go_ret
        exact ⟨by first | rfl | (simp [*, errW_none, errW_some] <;> rfl), by repeat (with_reducible first | exact HB.out | apply below_alloc | apply pw_below_drewN | apply below_drew1 | refine below_set ?_ (Aside0.out ‹_›))⟩
      ·
       rw [if_neg c5] at H
       exact absurd H (by simp)
     ·
      rw [if_neg c4] at H
      exact absurd H (by simp)
    ·
     rw [if_neg c3] at H
     have d0 : decide (a1 < (l0.length : Int)) = false := decide_eq_false c3; clear c3; obtain rfl := Option.some.inj H
     go_wp2
     go_ret
     exact ⟨by first | rfl | (simp [*, errW_none, errW_some] <;> rfl), upH HB.out⟩
end
section
def spec_l1In.f (a0 : Int) (a1 : Int) (a2 : Int) : Option (Bool) := if a0 ≥ a1 then (some (decide (a0 ≤ a2))) else (some false)
set_option maxHeartbeats 8000000 in
set_option maxRecDepth 100000 in
theorem spec_l1In.calls (a0 : Int) (a1 : Int) (a2 : Int) (r : Bool) (w : World) (h : spec_l1In.f a0 a1 a2 = some r) :
    Calls Try.prog 41 #[.int .i64 a0, .int .i64 a1, .int .i64 a2] w fun e w' => e = .returned (.bool r) ∧ Drawn0 w w' := by
  have H : (if a0 ≥ a1 then (some (decide (a0 ≤ a2))) else (some false)) = some r := h; clear h
  by_cases c4 : a0 ≥ a1
  · rw [if_pos c4] at H
    have c4b0 : decide (a1 ≤ a0) = true := decide_eq_true c4; clear c4; obtain rfl := Option.some.inj H
    go_enter Try.func41, Try.ntmps41
    go_wp2
    go_ret
    exact ⟨by first | rfl | (simp; done) | (simp [*]; done), by repeat (first | exact Drawn0.refl _ | apply Drawn0.step)⟩
  · rw [if_neg c4] at H
    have c4b0 : decide (a1 ≤ a0) = false := decide_eq_false c4; clear c4; obtain rfl := Option.some.inj H
    go_enter Try.func41, Try.ntmps41
    go_wp2
    go_ret
    exact ⟨by first | rfl | (simp; done) | (simp [*]; done), by repeat (first | exact Drawn0.refl _ | apply Drawn0.step)⟩
end
section
open Go.Proofs.YtoifpgkfpdeglaaW.PrintWords.Aside0 renaming mk → yaa
open Go.Proofs.YtoifpgkfpdeglaaW.PrintWords renaming pw_below_drewN → yab, below_alloc → yac, below_drew1 → yad, below_size → yae, below_step → yaf, blk_frozen → yag, below_set → yah
def spec_OpOk.f (a0_0 : Int) (a0_1 : Int) (a0_2 : Int) (a0_3 : Int) (a0_4 : Int) : Option (Bool) := if a0_0 = 1 then ((spec_l1In.f a0_1 0 5).bind fun t102 => (if t102 = true then ((spec_l1In.f a0_2 0 5).bind fun t103 => (if t103 = true then ((spec_l1In.f a0_3 1 6).bind fun t104 => (if t104 = true then ((spec_l1In.f a0_4 1 6).bind fun t105 => (some t105)) else (some false))) else (some false))) else (some false))) else (if a0_0 = 7 then ((spec_l1In.f a0_1 1 6).bind fun t106 => (if t106 = true then ((spec_l1In.f a0_2 1 6).bind fun t107 => (if t107 = true then (if a0_3 = 0 then (some (a0_4 == 0)) else (some false)) else (some false))) else (some false))) else (if a0_0 = 8 then ((spec_l1In.f a0_1 0 255).bind fun t108 => (if t108 = true then ((spec_l1In.f a0_2 0 255).bind fun t109 => (if t109 = true then ((spec_l1In.f a0_3 0 255).bind fun t110 => (if t110 = true then (some (a0_4 == 0)) else (some false))) else (some false))) else (some false))) else ((spec_l1In.f a0_0 2 6).bind fun t111 => (if t111 = true then (if a0_1 = 0 then (if a0_2 = 0 then (if a0_3 = 0 then (some (a0_4 == 0)) else (some false)) else (some false)) else (some false)) else (some false)))))
set_option maxHeartbeats 8000000 in
set_option maxRecDepth 100000 in
theorem spec_OpOk.calls (a0_0 : Int) (a0_1 : Int) (a0_2 : Int) (a0_3 : Int) (a0_4 : Int) (r : Bool) (w : World) (h : spec_OpOk.f a0_0 a0_1 a0_2 a0_3 a0_4 = some r) :
  Calls Try.prog 38 #[.agg #[.int .i64 a0_0, .int .i64 a0_1, .int .i64 a0_2, .int .i64 a0_3, .int .i64 a0_4]] w fun e w' => e = .returned (.bool r) ∧ Below w.heap.size w w' := by
 have hu27 := Try.underlying27; have HB := yaa (Below.refl w.heap.size w); have H : (if a0_0 = 1 then ((spec_l1In.f a0_1 0 5).bind fun a6 => (if a6 = true then ((spec_l1In.f a0_2 0 5).bind fun a7 => (if a7 = true then ((spec_l1In.f a0_3 1 6).bind fun a8 => (if a8 = true then ((spec_l1In.f a0_4 1 6).bind fun a9 => (some a9)) else (some false))) else (some false))) else (some false))) else (if a0_0 = 7 then ((spec_l1In.f a0_1 1 6).bind fun b0 => (if b0 = true then ((spec_l1In.f a0_2 1 6).bind fun b1 => (if b1 = true then (if a0_3 = 0 then (some (a0_4 == 0)) else (some false)) else (some false))) else (some false))) else (if a0_0 = 8 then ((spec_l1In.f a0_1 0 255).bind fun b2 => (if b2 = true then ((spec_l1In.f a0_2 0 255).bind fun b3 => (if b3 = true then ((spec_l1In.f a0_3 0 255).bind fun b4 => (if b4 = true then (some (a0_4 == 0)) else (some false))) else (some false))) else (some false))) else ((spec_l1In.f a0_0 2 6).bind fun b5 => (if b5 = true then (if a0_1 = 0 then (if a0_2 = 0 then (if a0_3 = 0 then (some (a0_4 == 0)) else (some false)) else (some false)) else (some false)) else (some false)))))) = some r := h; clear h
 by_cases c2 : a0_0 = 1
 ·
  rw [if_pos c2] at H
  have u2 := beq_iff_eq.mpr c2; have u3 := bne_eq_false_iff_eq.mpr c2; clear c2; obtain ⟨a6, A3, H⟩ := bindA H; (try dsimp only at H)
  by_cases c4 : a6 = true
  ·
   subst c4
   rw [if_pos rfl] at H
   obtain ⟨a7, A5, H⟩ := bindA H; (try dsimp only at H)
   by_cases c6 : a7 = true
   ·
    subst c6
    rw [if_pos rfl] at H
    obtain ⟨a8, A7, H⟩ := bindA H; (try dsimp only at H)
    by_cases c8 : a8 = true
    ·
     subst c8
     rw [if_pos rfl] at H
     obtain ⟨a9, A9, H⟩ := bindA H; (try dsimp only at H); obtain rfl := Option.some.inj H
     go_enter Try.func38, Try.ntmps38
     go_wp2_with (first | ((with_reducible refine gd_ 1 rfl ?_); refine bx_ 1 rfl #[.int .i64 a0_0, .int .i64 a0_1, .int .i64 a0_2, .int .i64 a0_3, .int .i64 a0_4] 27 ?_; intro a1 hg w10 hbox hb; have a0 := yaa (hbox); have a2 := yaa ((by rw [hg]; exact (yae (upH HB.out)) : w.heap.size ≤ a1)); replace HB := yaa (yaf (upH HB.out) hb); have a3 := a2; clear hb hbox hg; obtain ⟨d2, d3, d4, d5, d6⟩ := cc5_ a0.out; obtain ⟨d7, d8, d9, e0⟩ := cf4_ a0.out; have e1 := yag a0.out 4) | ((with_reducible refine gc_ 41 rfl ?_); refine gl_ (some 9) rfl Try.func41 #[.int .i64 a0_1, .int .i64 0, .int .i64 5] ?_; (with_reducible refine (spec_l1In.calls a0_1 0 5 true _ A3.out).mono ?_); rintro e w' ⟨rfl, ⟨nd, rfl⟩⟩; refine ⟨_, rfl, ?_⟩) | (go_at_call 41; (with_reducible refine (spec_l1In.calls a0_2 0 5 true _ A5.out).mono ?_); rintro e w' ⟨rfl, ⟨nd, rfl⟩⟩) | (go_at_call 41; (with_reducible refine (spec_l1In.calls a0_3 1 6 true _ A7.out).mono ?_); rintro e w' ⟨rfl, ⟨nd, rfl⟩⟩) | (go_at_call 41; (with_reducible refine (spec_l1In.calls a0_4 1 6 a9 _ A9.out).mono ?_); rintro e w' ⟨rfl, ⟨nd, rfl⟩⟩))
     go_ret
     exact ⟨by first | rfl | (simp [*, errW_none, errW_some] <;> rfl), by repeat (with_reducible first | exact HB.out | apply yac | apply yab | apply yad | refine yah ?_ (Aside0.out ‹_›))⟩
    ·
     replace c8 := Bool.eq_false_iff.mpr c8
     subst c8
     rw [if_neg (show ¬ (false = true) by decide)] at H
     obtain rfl := Option.some.inj H
     go_enter Try.func38, Try.ntmps38
     go_wp2_with (first | ((with_reducible refine gd_ 1 rfl ?_); refine bx_ 1 rfl #[.int .i64 a0_0, .int .i64 a0_1, .int .i64 a0_2, .int .i64 a0_3, .int .i64 a0_4] 27 ?_; intro a1 hg w12 hbox hb; have a0 := yaa (hbox); have a2 := yaa ((by rw [hg]; exact (yae (upH HB.out)) : w.heap.size ≤ a1)); replace HB := yaa (yaf (upH HB.out) hb); have a3 := a2; clear hb hbox hg; obtain ⟨e2, e3, e4, e5, e6⟩ := cc5_ a0.out; obtain ⟨e7, e8, e9, f0⟩ := cf4_ a0.out; have f1 := yag a0.out 4) | ((with_reducible refine gc_ 41 rfl ?_); refine gl_ (some 9) rfl Try.func41 #[.int .i64 a0_1, .int .i64 0, .int .i64 5] ?_; (with_reducible refine (spec_l1In.calls a0_1 0 5 true _ A3.out).mono ?_); rintro e w' ⟨rfl, ⟨nd, rfl⟩⟩; refine ⟨_, rfl, ?_⟩) | (go_at_call 41; (with_reducible refine (spec_l1In.calls a0_2 0 5 true _ A5.out).mono ?_); rintro e w' ⟨rfl, ⟨nd, rfl⟩⟩) | (go_at_call 41; (with_reducible refine (spec_l1In.calls a0_3 1 6 false _ A7.out).mono ?_); rintro e w' ⟨rfl, ⟨nd, rfl⟩⟩))
     go_ret
     exact ⟨by first | rfl | (simp [*, errW_none, errW_some] <;> rfl), by repeat (with_reducible first | exact HB.out | apply yac | apply yab | apply yad | refine yah ?_ (Aside0.out ‹_›))⟩
   ·
    replace c6 := Bool.eq_false_iff.mpr c6
    subst c6
    rw [if_neg (show ¬ (false = true) by decide)] at H
    obtain rfl := Option.some.inj H
    go_enter Try.func38, Try.ntmps38
    go_wp2_with (first | ((with_reducible refine gd_ 1 rfl ?_); refine bx_ 1 rfl #[.int .i64 a0_0, .int .i64 a0_1, .int .i64 a0_2, .int .i64 a0_3, .int .i64 a0_4] 27 ?_; intro a1 hg w14 hbox hb; have a0 := yaa (hbox); have a2 := yaa ((by rw [hg]; exact (yae (upH HB.out)) : w.heap.size ≤ a1)); replace HB := yaa (yaf (upH HB.out) hb); have a3 := a2; clear hb hbox hg; obtain ⟨f2, f3, f4, f5, f6⟩ := cc5_ a0.out; obtain ⟨f7, f8, f9, g0⟩ := cf4_ a0.out; have g1 := yag a0.out 4) | ((with_reducible refine gc_ 41 rfl ?_); refine gl_ (some 9) rfl Try.func41 #[.int .i64 a0_1, .int .i64 0, .int .i64 5] ?_; (with_reducible refine (spec_l1In.calls a0_1 0 5 true _ A3.out).mono ?_); rintro e w' ⟨rfl, ⟨nd, rfl⟩⟩; refine ⟨_, rfl, ?_⟩) | (go_at_call 41; (with_reducible refine (spec_l1In.calls a0_2 0 5 false _ A5.out).mono ?_); rintro e w' ⟨rfl, ⟨nd, rfl⟩⟩))
    go_ret
    exact ⟨by first | rfl | (simp [*, errW_none, errW_some] <;> rfl), by repeat (with_reducible first | exact HB.out | apply yac | apply yab | apply yad | refine yah ?_ (Aside0.out ‹_›))⟩
  ·
   replace c4 := Bool.eq_false_iff.mpr c4
   subst c4
   rw [if_neg (show ¬ (false = true) by decide)] at H
   obtain rfl := Option.some.inj H
   go_enter Try.func38, Try.ntmps38
   go_wp2_with (first | ((with_reducible refine gd_ 1 rfl ?_); refine bx_ 1 rfl #[.int .i64 a0_0, .int .i64 a0_1, .int .i64 a0_2, .int .i64 a0_3, .int .i64 a0_4] 27 ?_; intro a1 hg w16 hbox hb; have a0 := yaa (hbox); have a2 := yaa ((by rw [hg]; exact (yae (upH HB.out)) : w.heap.size ≤ a1)); replace HB := yaa (yaf (upH HB.out) hb); have a3 := a2; clear hb hbox hg; obtain ⟨g2, g3, g4, g5, g6⟩ := cc5_ a0.out; obtain ⟨g7, g8, g9, h0⟩ := cf4_ a0.out; have h1 := yag a0.out 4) | ((with_reducible refine gc_ 41 rfl ?_); refine gl_ (some 9) rfl Try.func41 #[.int .i64 a0_1, .int .i64 0, .int .i64 5] ?_; (with_reducible refine (spec_l1In.calls a0_1 0 5 false _ A3.out).mono ?_); rintro e w' ⟨rfl, ⟨nd, rfl⟩⟩; refine ⟨_, rfl, ?_⟩))
   go_ret
   exact ⟨by first | rfl | (simp [*, errW_none, errW_some] <;> rfl), by repeat (with_reducible first | exact HB.out | apply yac | apply yab | apply yad | refine yah ?_ (Aside0.out ‹_›))⟩
 ·
  rw [if_neg c2] at H
  have u2 := beq_eq_false_iff_ne.mpr c2; have u3 := bne_iff_ne.mpr c2
  by_cases c18 : a0_0 = 7
  ·
   rw [if_pos c18] at H
   have b6 := beq_iff_eq.mpr c18; have b7 := bne_eq_false_iff_eq.mpr c18; clear c18; obtain ⟨b0, A19, H⟩ := bindA H; (try dsimp only at H)
   by_cases c20 : b0 = true
   ·
    subst c20
    rw [if_pos rfl] at H
    obtain ⟨b1, A21, H⟩ := bindA H; (try dsimp only at H)
    by_cases c22 : b1 = true
    ·
     subst c22
     rw [if_pos rfl] at H
     by_cases c23 : a0_3 = 0
     ·
      rw [if_pos c23] at H
      have b8 := beq_iff_eq.mpr c23; have b9 := bne_eq_false_iff_eq.mpr c23; clear c23; obtain rfl := Option.some.inj H
      go_enter Try.func38, Try.ntmps38
      go_wp2_with (first | ((with_reducible refine gd_ 1 rfl ?_); refine bx_ 1 rfl #[.int .i64 a0_0, .int .i64 a0_1, .int .i64 a0_2, .int .i64 a0_3, .int .i64 a0_4] 27 ?_; intro a1 hg w24 hbox hb; have a0 := yaa (hbox); have a2 := yaa ((by rw [hg]; exact (yae (upH HB.out)) : w.heap.size ≤ a1)); replace HB := yaa (yaf (upH HB.out) hb); have a3 := a2; clear hb hbox hg; obtain ⟨h2, h3, h4, h5, h6⟩ := cc5_ a0.out; obtain ⟨h7, h8, h9, i0⟩ := cf4_ a0.out; have i1 := yag a0.out 4) | ((with_reducible refine gc_ 41 rfl ?_); refine gl_ (some 29) rfl Try.func41 #[.int .i64 a0_1, .int .i64 1, .int .i64 6] ?_; (with_reducible refine (spec_l1In.calls a0_1 1 6 true _ A19.out).mono ?_); rintro e w' ⟨rfl, ⟨nd, rfl⟩⟩; refine ⟨_, rfl, ?_⟩) | (go_at_call 41; (with_reducible refine (spec_l1In.calls a0_2 1 6 true _ A21.out).mono ?_); rintro e w' ⟨rfl, ⟨nd, rfl⟩⟩))
      go_ret
      exact ⟨by first | rfl | (simp [*, errW_none, errW_some] <;> rfl), by repeat (with_reducible first | exact HB.out | apply yac | apply yab | apply yad | refine yah ?_ (Aside0.out ‹_›))⟩
     ·
      rw [if_neg c23] at H
      have b8 := beq_eq_false_iff_ne.mpr c23; have b9 := bne_iff_ne.mpr c23; obtain rfl := Option.some.inj H
      go_enter Try.func38, Try.ntmps38
      go_wp2_with (first | ((with_reducible refine gd_ 1 rfl ?_); refine bx_ 1 rfl #[.int .i64 a0_0, .int .i64 a0_1, .int .i64 a0_2, .int .i64 a0_3, .int .i64 a0_4] 27 ?_; intro a1 hg w26 hbox hb; have a0 := yaa (hbox); have a2 := yaa ((by rw [hg]; exact (yae (upH HB.out)) : w.heap.size ≤ a1)); replace HB := yaa (yaf (upH HB.out) hb); have a3 := a2; clear hb hbox hg; obtain ⟨i2, i3, i4, i5, i6⟩ := cc5_ a0.out; obtain ⟨i7, i8, i9, j0⟩ := cf4_ a0.out; have j1 := yag a0.out 4) | ((with_reducible refine gc_ 41 rfl ?_); refine gl_ (some 29) rfl Try.func41 #[.int .i64 a0_1, .int .i64 1, .int .i64 6] ?_; (with_reducible refine (spec_l1In.calls a0_1 1 6 true _ A19.out).mono ?_); rintro e w' ⟨rfl, ⟨nd, rfl⟩⟩; refine ⟨_, rfl, ?_⟩) | (go_at_call 41; (with_reducible refine (spec_l1In.calls a0_2 1 6 true _ A21.out).mono ?_); rintro e w' ⟨rfl, ⟨nd, rfl⟩⟩))
      go_ret
      exact ⟨by first | rfl | (simp [*, errW_none, errW_some] <;> rfl), by repeat (with_reducible first | exact HB.out | apply yac | apply yab | apply yad | refine yah ?_ (Aside0.out ‹_›))⟩
    ·
     replace c22 := Bool.eq_false_iff.mpr c22
     subst c22
     rw [if_neg (show ¬ (false = true) by decide)] at H
     obtain rfl := Option.some.inj H
     go_enter Try.func38, Try.ntmps38
     go_wp2_with (first | ((with_reducible refine gd_ 1 rfl ?_); refine bx_ 1 rfl #[.int .i64 a0_0, .int .i64 a0_1, .int .i64 a0_2, .int .i64 a0_3, .int .i64 a0_4] 27 ?_; intro a1 hg w28 hbox hb; have a0 := yaa (hbox); have a2 := yaa ((by rw [hg]; exact (yae (upH HB.out)) : w.heap.size ≤ a1)); replace HB := yaa (yaf (upH HB.out) hb); have a3 := a2; clear hb hbox hg; obtain ⟨j2, j3, j4, j5, j6⟩ := cc5_ a0.out; obtain ⟨j7, j8, j9, k0⟩ := cf4_ a0.out; have k1 := yag a0.out 4) | ((with_reducible refine gc_ 41 rfl ?_); refine gl_ (some 29) rfl Try.func41 #[.int .i64 a0_1, .int .i64 1, .int .i64 6] ?_; (with_reducible refine (spec_l1In.calls a0_1 1 6 true _ A19.out).mono ?_); rintro e w' ⟨rfl, ⟨nd, rfl⟩⟩; refine ⟨_, rfl, ?_⟩) | (go_at_call 41; (with_reducible refine (spec_l1In.calls a0_2 1 6 false _ A21.out).mono ?_); rintro e w' ⟨rfl, ⟨nd, rfl⟩⟩))
     go_ret
     exact ⟨by first | rfl | (simp [*, errW_none, errW_some] <;> rfl), by repeat (with_reducible first | exact HB.out | apply yac | apply yab | apply yad | refine yah ?_ (Aside0.out ‹_›))⟩
   ·
    replace c20 := Bool.eq_false_iff.mpr c20
    subst c20
    rw [if_neg (show ¬ (false = true) by decide)] at H
    obtain rfl := Option.some.inj H
    go_enter Try.func38, Try.ntmps38
    go_wp2_with (first | ((with_reducible refine gd_ 1 rfl ?_); refine bx_ 1 rfl #[.int .i64 a0_0, .int .i64 a0_1, .int .i64 a0_2, .int .i64 a0_3, .int .i64 a0_4] 27 ?_; intro a1 hg w30 hbox hb; have a0 := yaa (hbox); have a2 := yaa ((by rw [hg]; exact (yae (upH HB.out)) : w.heap.size ≤ a1)); replace HB := yaa (yaf (upH HB.out) hb); have a3 := a2; clear hb hbox hg; obtain ⟨k2, k3, k4, k5, k6⟩ := cc5_ a0.out; obtain ⟨k7, k8, k9, l0⟩ := cf4_ a0.out; have l1 := yag a0.out 4) | ((with_reducible refine gc_ 41 rfl ?_); refine gl_ (some 29) rfl Try.func41 #[.int .i64 a0_1, .int .i64 1, .int .i64 6] ?_; (with_reducible refine (spec_l1In.calls a0_1 1 6 false _ A19.out).mono ?_); rintro e w' ⟨rfl, ⟨nd, rfl⟩⟩; refine ⟨_, rfl, ?_⟩))
    go_ret
    exact ⟨by first | rfl | (simp [*, errW_none, errW_some] <;> rfl), by repeat (with_reducible first | exact HB.out | apply yac | apply yab | apply yad | refine yah ?_ (Aside0.out ‹_›))⟩
  ·
   rw [if_neg c18] at H
   have b6 := beq_eq_false_iff_ne.mpr c18; have b7 := bne_iff_ne.mpr c18
   by_cases c32 : a0_0 = 8
   ·
    rw [if_pos c32] at H
    have c0 := beq_iff_eq.mpr c32; have c1 := bne_eq_false_iff_eq.mpr c32; clear c32; obtain ⟨b2, A33, H⟩ := bindA H; (try dsimp only at H)
    by_cases c34 : b2 = true
    ·
     subst c34
     rw [if_pos rfl] at H
     obtain ⟨b3, A35, H⟩ := bindA H; (try dsimp only at H)
     by_cases c36 : b3 = true
     ·
      subst c36
      rw [if_pos rfl] at H
      obtain ⟨b4, A37, H⟩ := bindA H; (try dsimp only at H)
      by_cases c38 : b4 = true
      ·
       subst c38
       rw [if_pos rfl] at H
       obtain rfl := Option.some.inj H
       go_enter Try.func38, Try.ntmps38
       go_wp2_with (first | ((with_reducible refine gd_ 1 rfl ?_); refine bx_ 1 rfl #[.int .i64 a0_0, .int .i64 a0_1, .int .i64 a0_2, .int .i64 a0_3, .int .i64 a0_4] 27 ?_; intro a1 hg w39 hbox hb; have a0 := yaa (hbox); have a2 := yaa ((by rw [hg]; exact (yae (upH HB.out)) : w.heap.size ≤ a1)); replace HB := yaa (yaf (upH HB.out) hb); have a3 := a2; clear hb hbox hg; obtain ⟨l2, l3, l4, l5, l6⟩ := cc5_ a0.out; obtain ⟨l7, l8, l9, m0⟩ := cf4_ a0.out; have m1 := yag a0.out 4) | ((with_reducible refine gc_ 41 rfl ?_); refine gl_ (some 49) rfl Try.func41 #[.int .i64 a0_1, .int .i64 0, .int .i64 255] ?_; (with_reducible refine (spec_l1In.calls a0_1 0 255 true _ A33.out).mono ?_); rintro e w' ⟨rfl, ⟨nd, rfl⟩⟩; refine ⟨_, rfl, ?_⟩) | (go_at_call 41; (with_reducible refine (spec_l1In.calls a0_2 0 255 true _ A35.out).mono ?_); rintro e w' ⟨rfl, ⟨nd, rfl⟩⟩) | (go_at_call 41; (with_reducible refine (spec_l1In.calls a0_3 0 255 true _ A37.out).mono ?_); rintro e w' ⟨rfl, ⟨nd, rfl⟩⟩))
       go_ret
       exact ⟨by first | rfl | (simp [*, errW_none, errW_some] <;> rfl), by repeat (with_reducible first | exact HB.out | apply yac | apply yab | apply yad | refine yah ?_ (Aside0.out ‹_›))⟩
      ·
       replace c38 := Bool.eq_false_iff.mpr c38
       subst c38
       rw [if_neg (show ¬ (false = true) by decide)] at H
       obtain rfl := Option.some.inj H
       go_enter Try.func38, Try.ntmps38
       go_wp2_with (first | ((with_reducible refine gd_ 1 rfl ?_); refine bx_ 1 rfl #[.int .i64 a0_0, .int .i64 a0_1, .int .i64 a0_2, .int .i64 a0_3, .int .i64 a0_4] 27 ?_; intro a1 hg w41 hbox hb; have a0 := yaa (hbox); have a2 := yaa ((by rw [hg]; exact (yae (upH HB.out)) : w.heap.size ≤ a1)); replace HB := yaa (yaf (upH HB.out) hb); have a3 := a2; clear hb hbox hg; obtain ⟨m2, m3, m4, m5, m6⟩ := cc5_ a0.out; obtain ⟨m7, m8, m9, n0⟩ := cf4_ a0.out; have n1 := yag a0.out 4) | ((with_reducible refine gc_ 41 rfl ?_); refine gl_ (some 49) rfl Try.func41 #[.int .i64 a0_1, .int .i64 0, .int .i64 255] ?_; (with_reducible refine (spec_l1In.calls a0_1 0 255 true _ A33.out).mono ?_); rintro e w' ⟨rfl, ⟨nd, rfl⟩⟩; refine ⟨_, rfl, ?_⟩) | (go_at_call 41; (with_reducible refine (spec_l1In.calls a0_2 0 255 true _ A35.out).mono ?_); rintro e w' ⟨rfl, ⟨nd, rfl⟩⟩) | (go_at_call 41; (with_reducible refine (spec_l1In.calls a0_3 0 255 false _ A37.out).mono ?_); rintro e w' ⟨rfl, ⟨nd, rfl⟩⟩))
       go_ret
       exact ⟨by first | rfl | (simp [*, errW_none, errW_some] <;> rfl), by repeat (with_reducible first | exact HB.out | apply yac | apply yab | apply yad | refine yah ?_ (Aside0.out ‹_›))⟩
     ·
      replace c36 := Bool.eq_false_iff.mpr c36
      subst c36
      rw [if_neg (show ¬ (false = true) by decide)] at H
      obtain rfl := Option.some.inj H
      go_enter Try.func38, Try.ntmps38
      go_wp2_with (first | ((with_reducible refine gd_ 1 rfl ?_); refine bx_ 1 rfl #[.int .i64 a0_0, .int .i64 a0_1, .int .i64 a0_2, .int .i64 a0_3, .int .i64 a0_4] 27 ?_; intro a1 hg w43 hbox hb; have a0 := yaa (hbox); have a2 := yaa ((by rw [hg]; exact (yae (upH HB.out)) : w.heap.size ≤ a1)); replace HB := yaa (yaf (upH HB.out) hb); have a3 := a2; clear hb hbox hg; obtain ⟨n2, n3, n4, n5, n6⟩ := cc5_ a0.out; obtain ⟨n7, n8, n9, o0⟩ := cf4_ a0.out; have o1 := yag a0.out 4) | ((with_reducible refine gc_ 41 rfl ?_); refine gl_ (some 49) rfl Try.func41 #[.int .i64 a0_1, .int .i64 0, .int .i64 255] ?_; (with_reducible refine (spec_l1In.calls a0_1 0 255 true _ A33.out).mono ?_); rintro e w' ⟨rfl, ⟨nd, rfl⟩⟩; refine ⟨_, rfl, ?_⟩) | (go_at_call 41; (with_reducible refine (spec_l1In.calls a0_2 0 255 false _ A35.out).mono ?_); rintro e w' ⟨rfl, ⟨nd, rfl⟩⟩))
      go_ret
      exact ⟨by first | rfl | (simp [*, errW_none, errW_some] <;> rfl), by repeat (with_reducible first | exact HB.out | apply yac | apply yab | apply yad | refine yah ?_ (Aside0.out ‹_›))⟩
    ·
     replace c34 := Bool.eq_false_iff.mpr c34
     subst c34
     rw [if_neg (show ¬ (false = true) by decide)] at H
     obtain rfl := Option.some.inj H
     go_enter Try.func38, Try.ntmps38
     go_wp2_with (first | ((with_reducible refine gd_ 1 rfl ?_); refine bx_ 1 rfl #[.int .i64 a0_0, .int .i64 a0_1, .int .i64 a0_2, .int .i64 a0_3, .int .i64 a0_4] 27 ?_; intro a1 hg w45 hbox hb; have a0 := yaa (hbox); have a2 := yaa ((by rw [hg]; exact (yae (upH HB.out)) : w.heap.size ≤ a1)); replace HB := yaa (yaf (upH HB.out) hb); have a3 := a2; clear hb hbox hg; obtain ⟨o2, o3, o4, o5, o6⟩ := cc5_ a0.out; obtain ⟨o7, o8, o9, p0⟩ := cf4_ a0.out; have p1 := yag a0.out 4) | ((with_reducible refine gc_ 41 rfl ?_); refine gl_ (some 49) rfl Try.func41 #[.int .i64 a0_1, .int .i64 0, .int .i64 255] ?_; (with_reducible refine (spec_l1In.calls a0_1 0 255 false _ A33.out).mono ?_); rintro e w' ⟨rfl, ⟨nd, rfl⟩⟩; refine ⟨_, rfl, ?_⟩))
     go_ret
     exact ⟨by first | rfl | (simp [*, errW_none, errW_some] <;> rfl), by repeat (with_reducible first | exact HB.out | apply yac | apply yab | apply yad | refine yah ?_ (Aside0.out ‹_›))⟩
   ·
    rw [if_neg c32] at H
    have c0 := beq_eq_false_iff_ne.mpr c32; have c1 := bne_iff_ne.mpr c32; obtain ⟨b5, A47, H⟩ := bindA H; (try dsimp only at H)
    by_cases c48 : b5 = true
    ·
     subst c48
     rw [if_pos rfl] at H
     by_cases c49 : a0_1 = 0
     ·
      rw [if_pos c49] at H
      have c3 := beq_iff_eq.mpr c49; have c5 := bne_eq_false_iff_eq.mpr c49; clear c49
      by_cases c50 : a0_2 = 0
      ·
       rw [if_pos c50] at H
       have c7 := beq_iff_eq.mpr c50; have c9 := bne_eq_false_iff_eq.mpr c50; clear c50
       by_cases c51 : a0_3 = 0
       ·
        rw [if_pos c51] at H
        have d0 := beq_iff_eq.mpr c51; have d1 := bne_eq_false_iff_eq.mpr c51; clear c51; obtain rfl := Option.some.inj H
        go_enter Try.func38, Try.ntmps38
        go_wp2_with (first | ((with_reducible refine gd_ 1 rfl ?_); refine bx_ 1 rfl #[.int .i64 a0_0, .int .i64 a0_1, .int .i64 a0_2, .int .i64 a0_3, .int .i64 a0_4] 27 ?_; intro a1 hg w52 hbox hb; have a0 := yaa (hbox); have a2 := yaa ((by rw [hg]; exact (yae (upH HB.out)) : w.heap.size ≤ a1)); replace HB := yaa (yaf (upH HB.out) hb); have a3 := a2; clear hb hbox hg; obtain ⟨p2, p3, p4, p5, p6⟩ := cc5_ a0.out; obtain ⟨p7, p8, p9, q0⟩ := cf4_ a0.out; have q1 := yag a0.out 4) | ((with_reducible refine gc_ 41 rfl ?_); refine gl_ (some 67) rfl Try.func41 #[.int .i64 a0_0, .int .i64 2, .int .i64 6] ?_; (with_reducible refine (spec_l1In.calls a0_0 2 6 true _ A47.out).mono ?_); rintro e w' ⟨rfl, ⟨nd, rfl⟩⟩; refine ⟨_, rfl, ?_⟩))
        go_ret
        exact ⟨by first | rfl | (simp [*, errW_none, errW_some] <;> rfl), by repeat (with_reducible first | exact HB.out | apply yac | apply yab | apply yad | refine yah ?_ (Aside0.out ‹_›))⟩
       ·
        rw [if_neg c51] at H
        have d0 := beq_eq_false_iff_ne.mpr c51; have d1 := bne_iff_ne.mpr c51; obtain rfl := Option.some.inj H
        go_enter Try.func38, Try.ntmps38
        go_wp2_with (first | ((with_reducible refine gd_ 1 rfl ?_); refine bx_ 1 rfl #[.int .i64 a0_0, .int .i64 a0_1, .int .i64 a0_2, .int .i64 a0_3, .int .i64 a0_4] 27 ?_; intro a1 hg w54 hbox hb; have a0 := yaa (hbox); have a2 := yaa ((by rw [hg]; exact (yae (upH HB.out)) : w.heap.size ≤ a1)); replace HB := yaa (yaf (upH HB.out) hb); have a3 := a2; clear hb hbox hg; obtain ⟨q2, q3, q4, q5, q6⟩ := cc5_ a0.out; obtain ⟨q7, q8, q9, r0⟩ := cf4_ a0.out; have r1 := yag a0.out 4) | ((with_reducible refine gc_ 41 rfl ?_); refine gl_ (some 67) rfl Try.func41 #[.int .i64 a0_0, .int .i64 2, .int .i64 6] ?_; (with_reducible refine (spec_l1In.calls a0_0 2 6 true _ A47.out).mono ?_); rintro e w' ⟨rfl, ⟨nd, rfl⟩⟩; refine ⟨_, rfl, ?_⟩))
        go_ret
        exact ⟨by first | rfl | (simp [*, errW_none, errW_some] <;> rfl), by repeat (with_reducible first | exact HB.out | apply yac | apply yab | apply yad | refine yah ?_ (Aside0.out ‹_›))⟩
      ·
       rw [if_neg c50] at H
       have c7 := beq_eq_false_iff_ne.mpr c50; have c9 := bne_iff_ne.mpr c50; obtain rfl := Option.some.inj H
       go_enter Try.func38, Try.ntmps38
       go_wp2_with (first | ((with_reducible refine gd_ 1 rfl ?_); refine bx_ 1 rfl #[.int .i64 a0_0, .int .i64 a0_1, .int .i64 a0_2, .int .i64 a0_3, .int .i64 a0_4] 27 ?_; intro a1 hg w56 hbox hb; have a0 := yaa (hbox); have a2 := yaa ((by rw [hg]; exact (yae (upH HB.out)) : w.heap.size ≤ a1)); replace HB := yaa (yaf (upH HB.out) hb); have a3 := a2; clear hb hbox hg; obtain ⟨r2, r3, r4, r5, r6⟩ := cc5_ a0.out; obtain ⟨r7, r8, r9, s0⟩ := cf4_ a0.out; have s1 := yag a0.out 4) | ((with_reducible refine gc_ 41 rfl ?_); refine gl_ (some 67) rfl Try.func41 #[.int .i64 a0_0, .int .i64 2, .int .i64 6] ?_; (with_reducible refine (spec_l1In.calls a0_0 2 6 true _ A47.out).mono ?_); rintro e w' ⟨rfl, ⟨nd, rfl⟩⟩; refine ⟨_, rfl, ?_⟩))
       go_ret
       exact ⟨by first | rfl | (simp [*, errW_none, errW_some] <;> rfl), by repeat (with_reducible first | exact HB.out | apply yac | apply yab | apply yad | refine yah ?_ (Aside0.out ‹_›))⟩
     ·
      rw [if_neg c49] at H
      have c3 := beq_eq_false_iff_ne.mpr c49; have c5 := bne_iff_ne.mpr c49; obtain rfl := Option.some.inj H
      go_enter Try.func38, Try.ntmps38
      go_wp2_with (first | ((with_reducible refine gd_ 1 rfl ?_); refine bx_ 1 rfl #[.int .i64 a0_0, .int .i64 a0_1, .int .i64 a0_2, .int .i64 a0_3, .int .i64 a0_4] 27 ?_; intro a1 hg w58 hbox hb; have a0 := yaa (hbox); have a2 := yaa ((by rw [hg]; exact (yae (upH HB.out)) : w.heap.size ≤ a1)); replace HB := yaa (yaf (upH HB.out) hb); have a3 := a2; clear hb hbox hg; obtain ⟨s2, s3, s4, s5, s6⟩ := cc5_ a0.out; obtain ⟨s7, s8, s9, t0⟩ := cf4_ a0.out; have t1 := yag a0.out 4) | ((with_reducible refine gc_ 41 rfl ?_); refine gl_ (some 67) rfl Try.func41 #[.int .i64 a0_0, .int .i64 2, .int .i64 6] ?_; (with_reducible refine (spec_l1In.calls a0_0 2 6 true _ A47.out).mono ?_); rintro e w' ⟨rfl, ⟨nd, rfl⟩⟩; refine ⟨_, rfl, ?_⟩))
      go_ret
      exact ⟨by first | rfl | (simp [*, errW_none, errW_some] <;> rfl), by repeat (with_reducible first | exact HB.out | apply yac | apply yab | apply yad | refine yah ?_ (Aside0.out ‹_›))⟩
    ·
     replace c48 := Bool.eq_false_iff.mpr c48
     subst c48
     rw [if_neg (show ¬ (false = true) by decide)] at H
     obtain rfl := Option.some.inj H
     go_enter Try.func38, Try.ntmps38
     go_wp2_with (first | ((with_reducible refine gd_ 1 rfl ?_); refine bx_ 1 rfl #[.int .i64 a0_0, .int .i64 a0_1, .int .i64 a0_2, .int .i64 a0_3, .int .i64 a0_4] 27 ?_; intro a1 hg w60 hbox hb; have a0 := yaa (hbox); have a2 := yaa ((by rw [hg]; exact (yae (upH HB.out)) : w.heap.size ≤ a1)); replace HB := yaa (yaf (upH HB.out) hb); have a3 := a2; clear hb hbox hg; obtain ⟨t2, t3, t4, t5, t6⟩ := cc5_ a0.out; obtain ⟨t7, t8, t9, u0⟩ := cf4_ a0.out; have u1 := yag a0.out 4) | ((with_reducible refine gc_ 41 rfl ?_); refine gl_ (some 67) rfl Try.func41 #[.int .i64 a0_0, .int .i64 2, .int .i64 6] ?_; (with_reducible refine (spec_l1In.calls a0_0 2 6 false _ A47.out).mono ?_); rintro e w' ⟨rfl, ⟨nd, rfl⟩⟩; refine ⟨_, rfl, ?_⟩))
     go_ret
     exact ⟨by first | rfl | (simp [*, errW_none, errW_some] <;> rfl), by repeat (with_reducible first | exact HB.out | apply yac | apply yab | apply yad | refine yah ?_ (Aside0.out ‹_›))⟩
end
section
def spec_l6All.l0 : Nat → List (S27) → Int → Option (Bool)
 | 0, _, _ => none
 | k + 1, x0, x3 => if x3 < (x0.length : Int) then (if 0 ≤ x3 then ((spec_OpOk.f ((rd_T27 x0 x3).f0) ((rd_T27 x0 x3).f1) ((rd_T27 x0 x3).f2) ((rd_T27 x0 x3).f3) ((rd_T27 x0 x3).f4)).bind fun t102 => (if t102 = true then (spec_l6All.l0 k x0 (wrap64 (x3 + 1))) else (some false))) else (none)) else (some (decide ((x0.length : Int) ≤ 5)))
def spec_l6All.f (k : Nat) (l0 : List (S27)) : Option (Bool) := spec_l6All.l0 k l0 0
set_option maxHeartbeats 8000000 in
set_option maxRecDepth 100000 in
theorem spec_l6All.calls (k : Nat) (A0 : Option Addr) (c0 : Nat) (l0 : List (S27)) (r : Bool) (w : World) (hr0 : Kd.C k27 w A0 l0.length l0) (hc0 : l0.length ≤ c0) (h : spec_l6All.f k l0 = some r) :
  Calls Try.prog 55 #[.slice A0 l0.length c0] w fun e w' => e = .returned (.bool r) ∧ Below w.heap.size w w' := by
 have hu27 := Try.underlying27; have HR0 := Aside0.mk hr0; have HC0 := Aside0.mk hc0; clear hr0 hc0; have HB := Aside0.mk (Below.refl w.heap.size w); have H : (spec_l6All.l0 k l0 0) = some r := h; clear h; have H' := Aside0.mk H; clear H
 go_enter Try.func55, Try.ntmps55
 go_wp2
 (try simp only [Act.put, List.setIfInBounds_toArray, List.set_cons_zero, List.set_cons_succ])
 go_loopg [3] k (fun kq v3 w' => ∃ (a1 : Int), v3 = .int .i64 a1 ∧ Aside0 (spec_l6All.l0 kq l0 a1 = some r) ∧ Aside0 (kq ≤ k) ∧ Aside0 (Below w.heap.size w w'))
 case atStart => exact ⟨(0), (by first | rfl | (simp; done) | (simp [*]; done)), H', ⟨Nat.le_refl _⟩, ⟨upH HB.out⟩⟩
 case round =>
  clear H'; obtain ⟨a1, rfl, HA, HK1, HB⟩ := hrel
  cases gk with
  | zero => exact absurd HA.out (by simp [spec_l6All.l0])
  | succ k1 =>
   have H := HA.out; clear HA
   simp only [spec_l6All.l0] at H
   by_cases c2 : a1 < (l0.length : Int)
   ·
    rw [if_pos c2] at H
    have a8 : decide (a1 < (l0.length : Int)) = true := decide_eq_true c2; clear c2
    by_cases c3 : 0 ≤ a1
    ·
     rw [if_pos c3] at H
     replace c3 := decide_eq_true c3; obtain ⟨a9, A4, H⟩ := bindA H; (try dsimp only at H)
     by_cases c5 : a9 = true
     ·
      subst c5
      rw [if_pos rfl] at H
      have H' := Aside0.mk H; clear H; have p101 : 0 ≤ (a1 : Int) := of_decide_eq_true (by assumption); have q101 : a1 < (l0.length : Int) := of_decide_eq_true (by assumption); obtain ⟨ad101, a7, a2, a3, a4, a5, a6⟩ := at_T27 HR0.out a1 p101 q101
      cases a7
      replace a2 := upc_ HB.out a2; replace a3 := upc_ HB.out a3; replace a4 := upc_ HB.out a4; replace a5 := upc_ HB.out a5; replace a6 := upc_ HB.out a6; replace p101 := eq_true p101; replace q101 := eq_true q101
      go_wp2_with (first | ((with_reducible refine gc_ 38 rfl ?_); refine gl_ (some 14) rfl Try.func38 #[.agg #[.int .i64 ((rd_T27 l0 a1).f0), .int .i64 ((rd_T27 l0 a1).f1), .int .i64 ((rd_T27 l0 a1).f2), .int .i64 ((rd_T27 l0 a1).f3), .int .i64 ((rd_T27 l0 a1).f4)]] ?_; (with_reducible refine (spec_OpOk.calls ((rd_T27 l0 a1).f0) ((rd_T27 l0 a1).f1) ((rd_T27 l0 a1).f2) ((rd_T27 l0 a1).f3) ((rd_T27 l0 a1).f4) true _ A4.out).mono ?_); rintro e w6 ⟨rfl, hb⟩; refine ⟨_, rfl, ?_⟩; replace HB := Aside0.mk (below_step (upH HB.out) hb); (try clear hb)))
      go_roundg k1
      case measure => have := HK1.out; omega
      case rel => exact ⟨(wrap64 (a1 + 1)), (by first | rfl | (simp; done) | (simp [*]; done)), H', ⟨by have := HK1.out; omega⟩, ⟨upH HB.out⟩⟩
     ·
      replace c5 := Bool.eq_false_iff.mpr c5
      subst c5
      rw [if_neg (show ¬ (false = true) by decide)] at H
      obtain rfl := Option.some.inj H; have p101 : 0 ≤ (a1 : Int) := of_decide_eq_true (by assumption); have q101 : a1 < (l0.length : Int) := of_decide_eq_true (by assumption); obtain ⟨ad101, a7, a2, a3, a4, a5, a6⟩ := at_T27 HR0.out a1 p101 q101
      cases a7
      replace a2 := upc_ HB.out a2; replace a3 := upc_ HB.out a3; replace a4 := upc_ HB.out a4; replace a5 := upc_ HB.out a5; replace a6 := upc_ HB.out a6; replace p101 := eq_true p101; replace q101 := eq_true q101
      go_wp2_with (first | ((with_reducible refine gc_ 38 rfl ?_); refine gl_ (some 14) rfl Try.func38 #[.agg #[.int .i64 ((rd_T27 l0 a1).f0), .int .i64 ((rd_T27 l0 a1).f1), .int .i64 ((rd_T27 l0 a1).f2), .int .i64 ((rd_T27 l0 a1).f3), .int .i64 ((rd_T27 l0 a1).f4)]] ?_; (with_reducible refine (spec_OpOk.calls ((rd_T27 l0 a1).f0) ((rd_T27 l0 a1).f1) ((rd_T27 l0 a1).f2) ((rd_T27 l0 a1).f3) ((rd_T27 l0 a1).f4) false _ A4.out).mono ?_); rintro e w7 ⟨rfl, hb⟩; refine ⟨_, rfl, ?_⟩; replace HB := Aside0.mk (below_step (upH HB.out) hb); (try clear hb)))
      go_ret
      exact ⟨by first | rfl | (simp [*, errW_none, errW_some] <;> rfl), upH HB.out⟩
    ·
     rw [if_neg c3] at H
     exact absurd H (by simp)
   ·
    rw [if_neg c2] at H
    have a8 : decide (a1 < (l0.length : Int)) = false := decide_eq_false c2; clear c2; obtain rfl := Option.some.inj H
    go_wp2
    go_ret
    exact ⟨by first | rfl | (simp [*, errW_none, errW_some] <;> rfl), upH HB.out⟩
end
section
def spec_PixOk.f (a0_0 : Int) (a0_1 : Int) (a0_2 : Int) (a0_3 : Int) : Option (Bool) := (spec_l1In.f a0_0 0 255).bind fun t102 => (if t102 = true then ((spec_l1In.f a0_1 0 255).bind fun t103 => (if t103 = true then ((spec_l1In.f a0_2 0 255).bind fun t104 => (if t104 = true then ((spec_l1In.f a0_3 0 255).bind fun t105 => (some t105)) else (some false))) else (some false))) else (some false))
set_option maxHeartbeats 8000000 in
set_option maxRecDepth 100000 in
theorem spec_PixOk.calls (a0_0 : Int) (a0_1 : Int) (a0_2 : Int) (a0_3 : Int) (r : Bool) (w : World) (h : spec_PixOk.f a0_0 a0_1 a0_2 a0_3 = some r) :
  Calls Try.prog 19 #[.agg #[.int .i64 a0_0, .int .i64 a0_1, .int .i64 a0_2, .int .i64 a0_3]] w fun e w' => e = .returned (.bool r) ∧ Below w.heap.size w w' := by
 have hu36 := Try.underlying36; have HB := Aside0.mk (Below.refl w.heap.size w); have H : ((spec_l1In.f a0_0 0 255).bind fun a4 => (if a4 = true then ((spec_l1In.f a0_1 0 255).bind fun a5 => (if a5 = true then ((spec_l1In.f a0_2 0 255).bind fun a6 => (if a6 = true then ((spec_l1In.f a0_3 0 255).bind fun a7 => (some a7)) else (some false))) else (some false))) else (some false))) = some r := h; clear h; obtain ⟨a4, A2, H⟩ := bindA H; (try dsimp only at H)
 by_cases c3 : a4 = true
 ·
  subst c3
  rw [if_pos rfl] at H
  obtain ⟨a5, A4, H⟩ := bindA H; (try dsimp only at H)
  by_cases c5 : a5 = true
  ·
   subst c5
   rw [if_pos rfl] at H
   obtain ⟨a6, A6, H⟩ := bindA H; (try dsimp only at H)
   by_cases c7 : a6 = true
   ·
    subst c7
    rw [if_pos rfl] at H
    obtain ⟨a7, A8, H⟩ := bindA H; (try dsimp only at H); obtain rfl := Option.some.inj H
    go_enter Try.func19, Try.ntmps19
    go_wp2_with (first | ((with_reducible refine gd_ 1 rfl ?_); refine bx_ 1 rfl #[.int .i64 a0_0, .int .i64 a0_1, .int .i64 a0_2, .int .i64 a0_3] 36 ?_; intro a1 hg w9 hbox hb; have a0 := Aside0.mk (hbox); have a2 := Aside0.mk ((by rw [hg]; exact (below_size (upH HB.out)) : w.heap.size ≤ a1)); replace HB := Aside0.mk (below_step (upH HB.out) hb); have a3 := a2; clear hb hbox hg; obtain ⟨b0, b1, b2, b3⟩ := cc4_ a0.out; obtain ⟨b4, b5, b6⟩ := cf3_ a0.out; have b7 := blk_frozen a0.out 3) | ((with_reducible refine gc_ 41 rfl ?_); refine gl_ (some 5) rfl Try.func41 #[.int .i64 a0_0, .int .i64 0, .int .i64 255] ?_; (with_reducible refine (spec_l1In.calls a0_0 0 255 true _ A2.out).mono ?_); rintro e w' ⟨rfl, ⟨nd, rfl⟩⟩; refine ⟨_, rfl, ?_⟩) | (go_at_call 41; (with_reducible refine (spec_l1In.calls a0_1 0 255 true _ A4.out).mono ?_); rintro e w' ⟨rfl, ⟨nd, rfl⟩⟩) | (go_at_call 41; (with_reducible refine (spec_l1In.calls a0_2 0 255 true _ A6.out).mono ?_); rintro e w' ⟨rfl, ⟨nd, rfl⟩⟩) | (go_at_call 41; (with_reducible refine (spec_l1In.calls a0_3 0 255 a7 _ A8.out).mono ?_); rintro e w' ⟨rfl, ⟨nd, rfl⟩⟩))
    go_ret
    exact ⟨by first | rfl | (simp [*, errW_none, errW_some] <;> rfl), by repeat (with_reducible first | exact HB.out | apply below_alloc | apply pw_below_drewN | apply below_drew1 | refine below_set ?_ (Aside0.out ‹_›))⟩
   ·
    replace c7 := Bool.eq_false_iff.mpr c7
    subst c7
    rw [if_neg (show ¬ (false = true) by decide)] at H
    obtain rfl := Option.some.inj H
    go_enter Try.func19, Try.ntmps19
    go_wp2_with (first | ((with_reducible refine gd_ 1 rfl ?_); refine bx_ 1 rfl #[.int .i64 a0_0, .int .i64 a0_1, .int .i64 a0_2, .int .i64 a0_3] 36 ?_; intro a1 hg w11 hbox hb; have a0 := Aside0.mk (hbox); have a2 := Aside0.mk ((by rw [hg]; exact (below_size (upH HB.out)) : w.heap.size ≤ a1)); replace HB := Aside0.mk (below_step (upH HB.out) hb); have a3 := a2; clear hb hbox hg; obtain ⟨b8, b9, c0, c1⟩ := cc4_ a0.out; obtain ⟨c2, c4, c6⟩ := cf3_ a0.out; have c8 := blk_frozen a0.out 3) | ((with_reducible refine gc_ 41 rfl ?_); refine gl_ (some 5) rfl Try.func41 #[.int .i64 a0_0, .int .i64 0, .int .i64 255] ?_; (with_reducible refine (spec_l1In.calls a0_0 0 255 true _ A2.out).mono ?_); rintro e w' ⟨rfl, ⟨nd, rfl⟩⟩; refine ⟨_, rfl, ?_⟩) | (go_at_call 41; (with_reducible refine (spec_l1In.calls a0_1 0 255 true _ A4.out).mono ?_); rintro e w' ⟨rfl, ⟨nd, rfl⟩⟩) | (go_at_call 41; (with_reducible refine (spec_l1In.calls a0_2 0 255 false _ A6.out).mono ?_); rintro e w' ⟨rfl, ⟨nd, rfl⟩⟩))
    go_ret
    exact ⟨by first | rfl | (simp [*, errW_none, errW_some] <;> rfl), by repeat (with_reducible first | exact HB.out | apply below_alloc | apply pw_below_drewN | apply below_drew1 | refine below_set ?_ (Aside0.out ‹_›))⟩
  ·
   replace c5 := Bool.eq_false_iff.mpr c5
   subst c5
   rw [if_neg (show ¬ (false = true) by decide)] at H
   obtain rfl := Option.some.inj H
   go_enter Try.func19, Try.ntmps19
   go_wp2_with (first | ((with_reducible refine gd_ 1 rfl ?_); refine bx_ 1 rfl #[.int .i64 a0_0, .int .i64 a0_1, .int .i64 a0_2, .int .i64 a0_3] 36 ?_; intro a1 hg w13 hbox hb; have a0 := Aside0.mk (hbox); have a2 := Aside0.mk ((by rw [hg]; exact (below_size (upH HB.out)) : w.heap.size ≤ a1)); replace HB := Aside0.mk (below_step (upH HB.out) hb); have a3 := a2; clear hb hbox hg; obtain ⟨c9, d0, d1, d2⟩ := cc4_ a0.out; obtain ⟨d3, d4, d5⟩ := cf3_ a0.out; have d6 := blk_frozen a0.out 3) | ((with_reducible refine gc_ 41 rfl ?_); refine gl_ (some 5) rfl Try.func41 #[.int .i64 a0_0, .int .i64 0, .int .i64 255] ?_; (with_reducible refine (spec_l1In.calls a0_0 0 255 true _ A2.out).mono ?_); rintro e w' ⟨rfl, ⟨nd, rfl⟩⟩; refine ⟨_, rfl, ?_⟩) | (go_at_call 41; (with_reducible refine (spec_l1In.calls a0_1 0 255 false _ A4.out).mono ?_); rintro e w' ⟨rfl, ⟨nd, rfl⟩⟩))
   go_ret
   exact ⟨by first | rfl | (simp [*, errW_none, errW_some] <;> rfl), by repeat (with_reducible first | exact HB.out | apply below_alloc | apply pw_below_drewN | apply below_drew1 | refine below_set ?_ (Aside0.out ‹_›))⟩
 ·
  replace c3 := Bool.eq_false_iff.mpr c3
  subst c3
  rw [if_neg (show ¬ (false = true) by decide)] at H
  obtain rfl := Option.some.inj H
  go_enter Try.func19, Try.ntmps19
  go_wp2_with (first | ((with_reducible refine gd_ 1 rfl ?_); refine bx_ 1 rfl #[.int .i64 a0_0, .int .i64 a0_1, .int .i64 a0_2, .int .i64 a0_3] 36 ?_; intro a1 hg w15 hbox hb; have a0 := Aside0.mk (hbox); have a2 := Aside0.mk ((by rw [hg]; exact (below_size (upH HB.out)) : w.heap.size ≤ a1)); replace HB := Aside0.mk (below_step (upH HB.out) hb); have a3 := a2; clear hb hbox hg; obtain ⟨d7, d8, d9, e0⟩ := cc4_ a0.out; obtain ⟨e1, e2, e3⟩ := cf3_ a0.out; have e4 := blk_frozen a0.out 3) | ((with_reducible refine gc_ 41 rfl ?_); refine gl_ (some 5) rfl Try.func41 #[.int .i64 a0_0, .int .i64 0, .int .i64 255] ?_; (with_reducible refine (spec_l1In.calls a0_0 0 255 false _ A2.out).mono ?_); rintro e w' ⟨rfl, ⟨nd, rfl⟩⟩; refine ⟨_, rfl, ?_⟩))
  go_ret
  exact ⟨by first | rfl | (simp [*, errW_none, errW_some] <;> rfl), by repeat (with_reducible first | exact HB.out | apply below_alloc | apply pw_below_drewN | apply below_drew1 | refine below_set ?_ (Aside0.out ‹_›))⟩
end
section
open Go.Proofs.YtoifpgkfpdeglaaW.PrintWords renaming pw_below_drewN → yaa
mutual
def spec_RasOk.j0 : Nat → Bool → Int → Int → List (S36) → Option (Bool)
 | 0, _, _, _, _ => none
 | k + 1, x24, x102000, x102001, x102002 => if x24 = true then (some false) else (spec_RasOk.l0 k 0 x102000 x102001 x102002)
def spec_RasOk.l0 : Nat → Int → Int → Int → List (S36) → Option (Bool)
 | 0, _, _, _, _ => none
 | k + 1, x3, x102000, x102001, x102002 => if x3 < (x102002.length : Int) then (if 0 ≤ x3 then ((spec_PixOk.f ((rd_T36 x102002 x3).f0) ((rd_T36 x102002 x3).f1) ((rd_T36 x102002 x3).f2) ((rd_T36 x102002 x3).f3)).bind fun t105 => (if t105 = true then (spec_RasOk.l0 k (wrap64 (x3 + 1)) x102000 x102001 x102002) else (some false))) else (none)) else (some true)
end
def spec_RasOk.f (k : Nat) (a0_0 : Int) (a0_1 : Int) (l0_2 : List (S36)) : Option (Bool) := (spec_l1In.f a0_0 1 6).bind fun t102 => (if t102 = true then ((spec_l1In.f a0_1 1 6).bind fun t103 => (if t103 = true then (spec_RasOk.j0 k ((l0_2.length : Int) != (wrap64 (a0_0 * a0_1))) a0_0 a0_1 l0_2) else (spec_RasOk.j0 k true a0_0 a0_1 l0_2))) else (spec_RasOk.j0 k true a0_0 a0_1 l0_2))
set_option maxHeartbeats 8000000 in
set_option maxRecDepth 100000 in
theorem spec_RasOk.calls (k : Nat) (a0_0 : Int) (a0_1 : Int) (A0_2 : Option Addr) (c0_2 : Nat) (l0_2 : List (S36)) (r : Bool) (w : World) (hr0_2 : Kd.C k36 w A0_2 l0_2.length l0_2) (hc0_2 : l0_2.length ≤ c0_2) (h : spec_RasOk.f k a0_0 a0_1 l0_2 = some r) :
  Calls Try.prog 16 #[.agg #[.int .i64 a0_0, .int .i64 a0_1, .slice A0_2 l0_2.length c0_2]] w fun e w' => e = .returned (.bool r) ∧ Below w.heap.size w w' := by
 have hu25 := Try.underlying25; have hu36 := Try.underlying36; have HR0_2 := Aside0.mk hr0_2; have HC0_2 := Aside0.mk hc0_2; clear hr0_2 hc0_2; have HB := Aside0.mk (Below.refl w.heap.size w); have H : ((spec_l1In.f a0_0 1 6).bind fun d5 => (if d5 = true then ((spec_l1In.f a0_1 1 6).bind fun d6 => (if d6 = true then (spec_RasOk.j0 k ((l0_2.length : Int) != (wrap64 (a0_0 * a0_1))) a0_0 a0_1 l0_2) else (spec_RasOk.j0 k true a0_0 a0_1 l0_2))) else (spec_RasOk.j0 k true a0_0 a0_1 l0_2))) = some r := h; clear h; have HC2 := Aside0.mk H; clear H
 go_enter Try.func16, Try.ntmps16
 go_upto_region 1 with (first | ((with_reducible refine gd_ 1 rfl ?_); (try (refine gate_guard (by rfl) ?_; dsimp only)); refine bx_ 1 rfl #[.int .i64 a0_0, .int .i64 a0_1, .slice A0_2 l0_2.length c0_2] 25 ?_; intro b6 hg w3 hbox hb; have a3 := Aside0.mk (hbox); have d8 := Aside0.mk ((by rw [hg]; exact (below_size (upH HB.out)) : w.heap.size ≤ b6)); replace HB := Aside0.mk (below_step (upH HB.out) hb); have g3 := d8; clear hb hbox hg))
 (try simp only [Act.put, List.setIfInBounds_toArray, List.set_cons_zero, List.set_cons_succ])
 go_cut [24] (fun v24 wc => ∃ (kq : Nat) (a9 : Bool), v24 = .bool a9 ∧ Aside0 (spec_RasOk.j0 kq a9 a0_0 a0_1 l0_2 = some r) ∧ Aside0 (kq ≤ k) ∧ Aside0 (wc.heap[b6]? = some (.cells #[.int .i64 a0_0, .int .i64 a0_1, (.slice A0_2 l0_2.length c0_2)] 25 (0, 0))) ∧ Aside0 (Below w.heap.size w wc))
 case first =>
  have H := HC2.out; clear HC2; obtain ⟨d5, A4, H⟩ := bindA H; (try dsimp only at H)
  by_cases c5 : d5 = true
  ·
   subst c5
   rw [if_pos rfl] at H
   obtain ⟨d6, A6, H⟩ := bindA H; (try dsimp only at H)
   by_cases c7 : d6 = true
   ·
    subst c7
    rw [if_pos rfl] at H
    have H' := Aside0.mk H; clear H; obtain ⟨b7, b8, b9⟩ := cc3_ a3.out; obtain ⟨c2, c3, c6⟩ := cf3_ a3.out
    go_wp2_with (first | ((with_reducible refine gc_ 41 rfl ?_); refine gl_ (some 6) rfl Try.func41 #[.int .i64 a0_0, .int .i64 1, .int .i64 6] ?_; (with_reducible refine (spec_l1In.calls a0_0 1 6 true _ A4.out).mono ?_); rintro e w' ⟨rfl, ⟨nd, rfl⟩⟩; refine ⟨_, rfl, ?_⟩) | (go_at_call 41; (with_reducible refine (spec_l1In.calls a0_1 1 6 true _ A6.out).mono ?_); rintro e w' ⟨rfl, ⟨nd, rfl⟩⟩))
    go_meet
    case rel => exact ⟨_, (((l0_2.length : Int) != (wrap64 (a0_0 * a0_1)))), (by first | rfl | (simp; done) | (simp [*]; done)), H', ⟨by first | omega | exact Nat.le_refl _⟩, ⟨by exact upB a3.out⟩, ⟨by repeat (with_reducible first | exact HB.out | apply below_alloc | apply yaa | apply below_drew1 | refine below_set ?_ (Aside0.out ‹_›))⟩⟩
   ·
    replace c7 := Bool.eq_false_iff.mpr c7
    subst c7
    rw [if_neg (show ¬ (false = true) by decide)] at H
    have H' := Aside0.mk H; clear H; obtain ⟨c9, d0, d1⟩ := cc3_ a3.out; obtain ⟨d2, d3, d4⟩ := cf3_ a3.out
    go_wp2_with (first | ((with_reducible refine gc_ 41 rfl ?_); refine gl_ (some 6) rfl Try.func41 #[.int .i64 a0_0, .int .i64 1, .int .i64 6] ?_; (with_reducible refine (spec_l1In.calls a0_0 1 6 true _ A4.out).mono ?_); rintro e w' ⟨rfl, ⟨nd, rfl⟩⟩; refine ⟨_, rfl, ?_⟩) | (go_at_call 41; (with_reducible refine (spec_l1In.calls a0_1 1 6 false _ A6.out).mono ?_); rintro e w' ⟨rfl, ⟨nd, rfl⟩⟩))
    go_meet
    case rel => exact ⟨_, (true), (by first | rfl | (simp; done) | (simp [*]; done)), H', ⟨by first | omega | exact Nat.le_refl _⟩, ⟨by exact upB a3.out⟩, ⟨by repeat (with_reducible first | exact HB.out | apply below_alloc | apply yaa | apply below_drew1 | refine below_set ?_ (Aside0.out ‹_›))⟩⟩
  ·
   replace c5 := Bool.eq_false_iff.mpr c5
   subst c5
   rw [if_neg (show ¬ (false = true) by decide)] at H
   have H' := Aside0.mk H; clear H; obtain ⟨b0, b1, b2⟩ := cc3_ a3.out; obtain ⟨b3, b4, b5⟩ := cf3_ a3.out
   go_wp2_with (first | ((with_reducible refine gc_ 41 rfl ?_); refine gl_ (some 6) rfl Try.func41 #[.int .i64 a0_0, .int .i64 1, .int .i64 6] ?_; (with_reducible refine (spec_l1In.calls a0_0 1 6 false _ A4.out).mono ?_); rintro e w' ⟨rfl, ⟨nd, rfl⟩⟩; refine ⟨_, rfl, ?_⟩))
   go_meet
   case rel => exact ⟨_, (true), (by first | rfl | (simp; done) | (simp [*]; done)), H', ⟨by first | omega | exact Nat.le_refl _⟩, ⟨by exact upB a3.out⟩, ⟨by repeat (with_reducible first | exact HB.out | apply below_alloc | apply yaa | apply below_drew1 | refine below_set ?_ (Aside0.out ‹_›))⟩⟩
 case rest =>
  clear HC2; (try clear c1); (try clear p2); (try clear c4); (try clear c5); (try clear p6); (try clear c7); (try clear b0); (try clear b1); (try clear b2); (try clear b7); (try clear b8); (try clear b9); (try clear c9); (try clear d0); (try clear d1); (try clear b3); (try clear b4); (try clear b5); (try clear c2); (try clear c3); (try clear c6); (try clear d2); (try clear d3); (try clear d4); obtain ⟨kq, a9, rfl, HA, HJ1, a3, HB⟩ := hcut
  cases kq with
  | zero => exact absurd HA.out (by simp [spec_RasOk.j0])
  | succ kj1 =>
   have H := HA.out; clear HA
   simp only [spec_RasOk.j0] at H
   by_cases c11 : a9 = true
   ·
    subst c11
    rw [if_pos rfl] at H
    obtain rfl := Option.some.inj H
    go_wp2
    go_ret
    exact ⟨by first | rfl | (simp [*, errW_none, errW_some] <;> rfl), by repeat (with_reducible first | exact HB.out | apply below_alloc | apply yaa | apply below_drew1 | refine below_set ?_ (Aside0.out ‹_›))⟩
   ·
    replace c11 := Bool.eq_false_iff.mpr c11
    subst c11
    rw [if_neg (show ¬ (false = true) by decide)] at H
    have H' := Aside0.mk H; clear H
    go_wp2
    (try simp only [Act.put, List.setIfInBounds_toArray, List.set_cons_zero, List.set_cons_succ])
    go_loopg [3] kj1 (fun kq v3 w' => ∃ (a4 : Int), v3 = .int .i64 a4 ∧ Aside0 (spec_RasOk.l0 kq a4 a0_0 a0_1 l0_2 = some r) ∧ Aside0 (kq ≤ kj1) ∧ Aside0 (w'.heap[b6]? = some (.cells #[.int .i64 a0_0, .int .i64 a0_1, (.slice A0_2 l0_2.length c0_2)] 25 (0, 0))) ∧ Aside0 (Below w.heap.size w w'))
    case atStart => exact ⟨(0), (by first | rfl | (simp; done) | (simp [*]; done)), H', ⟨Nat.le_refl _⟩, ⟨by exact upB a3.out⟩, ⟨by repeat (with_reducible first | exact HB.out | apply below_alloc | apply yaa | apply below_drew1 | refine below_set ?_ (Aside0.out ‹_›))⟩⟩
    case round =>
     clear H'; (try clear c1); (try clear p2); (try clear c4); (try clear c5); (try clear p6); (try clear c7); (try clear c11); (try clear b0); (try clear b1); (try clear b2); (try clear b7); (try clear b8); (try clear b9); (try clear c9); (try clear d0); (try clear d1); (try clear b3); (try clear b4); (try clear b5); (try clear c2); (try clear c3); (try clear c6); (try clear d2); (try clear d3); (try clear d4); (try clear p2); (try clear p6); obtain ⟨a4, rfl, HA, HK2, a3, HB⟩ := hrel
     cases gk with
     | zero => exact absurd HA.out (by simp [spec_RasOk.l0])
     | succ k2 =>
      have H := HA.out; clear HA
      simp only [spec_RasOk.l0] at H
      by_cases c12 : a4 < (l0_2.length : Int)
      ·
       rw [if_pos c12] at H
       have d9 : decide (a4 < (l0_2.length : Int)) = true := decide_eq_true c12; clear c12
       by_cases c13 : 0 ≤ a4
       ·
        rw [if_pos c13] at H
        replace c13 := decide_eq_true c13; obtain ⟨g2, A14, H⟩ := bindA H; (try dsimp only at H)
        by_cases c15 : g2 = true
        ·
         subst c15
         rw [if_pos rfl] at H
         have H' := Aside0.mk H; clear H; obtain ⟨e0, e1, e2⟩ := cc3_ a3.out; obtain ⟨e3, e4, e5⟩ := cf3_ a3.out; have p104 : 0 ≤ (a4 : Int) := of_decide_eq_true (by assumption); have q104 : a4 < (l0_2.length : Int) := of_decide_eq_true (by assumption); obtain ⟨ad104, d7, a5, a6, a7, a8⟩ := at_T36 HR0_2.out a4 p104 q104
         cases d7
         replace a5 := upc_ HB.out a5; replace a6 := upc_ HB.out a6; replace a7 := upc_ HB.out a7; replace a8 := upc_ HB.out a8; replace p104 := eq_true p104; replace q104 := eq_true q104
         go_wp2_with (first | ((with_reducible refine gc_ 19 rfl ?_); refine gl_ (some 37) rfl Try.func19 #[.agg #[.int .i64 ((rd_T36 l0_2 a4).f0), .int .i64 ((rd_T36 l0_2 a4).f1), .int .i64 ((rd_T36 l0_2 a4).f2), .int .i64 ((rd_T36 l0_2 a4).f3)]] ?_; (with_reducible refine (spec_PixOk.calls ((rd_T36 l0_2 a4).f0) ((rd_T36 l0_2 a4).f1) ((rd_T36 l0_2 a4).f2) ((rd_T36 l0_2 a4).f3) true _ A14.out).mono ?_); rintro e w17 ⟨rfl, hb⟩; refine ⟨_, rfl, ?_⟩; replace a3 := Aside0.mk (blk_below (upB a3.out) hb); replace HB := Aside0.mk (below_step (by repeat (with_reducible first | exact HB.out | apply below_alloc | apply yaa | apply below_drew1 | refine below_set ?_ (Aside0.out ‹_›))) hb); (try clear hb)))
         go_roundg k2
         case measure => have := HJ1.out; have := HK2.out; omega
         case rel => exact ⟨(wrap64 (a4 + 1)), (by first | rfl | (simp; done) | (simp [*]; done)), H', ⟨by have := HJ1.out; have := HK2.out; omega⟩, ⟨by exact upB a3.out⟩, ⟨by repeat (with_reducible first | exact HB.out | apply below_alloc | apply yaa | apply below_drew1 | refine below_set ?_ (Aside0.out ‹_›))⟩⟩
        ·
         replace c15 := Bool.eq_false_iff.mpr c15
         subst c15
         rw [if_neg (show ¬ (false = true) by decide)] at H
         obtain rfl := Option.some.inj H; obtain ⟨e6, e7, e8⟩ := cc3_ a3.out; obtain ⟨e9, f4, f5⟩ := cf3_ a3.out; have p104 : 0 ≤ (a4 : Int) := of_decide_eq_true (by assumption); have q104 : a4 < (l0_2.length : Int) := of_decide_eq_true (by assumption); obtain ⟨ad104, d7, a5, a6, a7, a8⟩ := at_T36 HR0_2.out a4 p104 q104
         cases d7
         replace a5 := upc_ HB.out a5; replace a6 := upc_ HB.out a6; replace a7 := upc_ HB.out a7; replace a8 := upc_ HB.out a8; replace p104 := eq_true p104; replace q104 := eq_true q104
         go_wp2_with (first | ((with_reducible refine gc_ 19 rfl ?_); refine gl_ (some 37) rfl Try.func19 #[.agg #[.int .i64 ((rd_T36 l0_2 a4).f0), .int .i64 ((rd_T36 l0_2 a4).f1), .int .i64 ((rd_T36 l0_2 a4).f2), .int .i64 ((rd_T36 l0_2 a4).f3)]] ?_; (with_reducible refine (spec_PixOk.calls ((rd_T36 l0_2 a4).f0) ((rd_T36 l0_2 a4).f1) ((rd_T36 l0_2 a4).f2) ((rd_T36 l0_2 a4).f3) false _ A14.out).mono ?_); rintro e w19 ⟨rfl, hb⟩; refine ⟨_, rfl, ?_⟩; replace a3 := Aside0.mk (blk_below (upB a3.out) hb); replace HB := Aside0.mk (below_step (by repeat (with_reducible first | exact HB.out | apply below_alloc | apply yaa | apply below_drew1 | refine below_set ?_ (Aside0.out ‹_›))) hb); (try clear hb)))
         go_ret
         exact ⟨by first | rfl | (simp [*, errW_none, errW_some] <;> rfl), by repeat (with_reducible first | exact HB.out | apply below_alloc | apply yaa | apply below_drew1 | refine below_set ?_ (Aside0.out ‹_›))⟩
       ·
        rw [if_neg c13] at H
        exact absurd H (by simp)
      ·
       rw [if_neg c12] at H
       have d9 : decide (a4 < (l0_2.length : Int)) = false := decide_eq_false c12; clear c12; obtain rfl := Option.some.inj H; obtain ⟨f6, f7, f8⟩ := cc3_ a3.out; obtain ⟨f9, g0, g1⟩ := cf3_ a3.out
       go_wp2
       go_ret
       exact ⟨by first | rfl | (simp [*, errW_none, errW_some] <;> rfl), by repeat (with_reducible first | exact HB.out | apply below_alloc | apply yaa | apply below_drew1 | refine below_set ?_ (Aside0.out ‹_›))⟩
end
section
theorem eqA36 (d : Nat) (w : World) (x0 y0 : Int) (x1 y1 : Int) (x2 y2 : Int) (x3 y3 : Int) :
    (Op.equalIn (d + 2) 36 (.agg #[.int .i64 x0, .int .i64 x1, .int .i64 x2, .int .i64 x3]) (.agg #[.int .i64 y0, .int .i64 y1, .int .i64 y2, .int .i64 y3])).run Try.prog w = .ok (x0 == y0 && (x1 == y1 && (x2 == y2 && (x3 == y3)))) w := by
  refine eqA_of Try.underlying36 (by kernel_rfl) ?_
  refine eqf_cons (by rfl) (by go_simp; rfl) (by go_simp; rfl) (by go_simp) ?_
  refine eqf_cons (by rfl) (by go_simp; rfl) (by go_simp; rfl) (by go_simp) ?_
  refine eqf_cons (by rfl) (by go_simp; rfl) (by go_simp; rfl) (by go_simp) ?_
  exact eqf_last (by rfl) (by go_simp; rfl) (by go_simp; rfl) (by go_simp)
end
section
attribute [local go_sem high] eqA36
open Go.Proofs.YtoifpgkfpdeglaaW.PrintWords.Aside0 renaming mk → yaa
open Go.Proofs.YtoifpgkfpdeglaaW.PrintWords renaming pw_below_drewN → yab, below_alloc → yac, below_drew1 → yad
mutual
def laws_eaRas.j0 : Nat → Bool → Int → Int → List (S36) → Int → Int → List (S36) → Option (Bool)
 | 0, _, _, _, _, _, _, _ => none
 | k + 1, x26, x102000, x102001, x102002, x103000, x103001, x103002 => if x26 = true then (some false) else (laws_eaRas.l0 k 0 x102000 x102001 x102002 x103000 x103001 x103002)
def laws_eaRas.l0 : Nat → Int → Int → Int → List (S36) → Int → Int → List (S36) → Option (Bool)
 | 0, _, _, _, _, _, _, _ => none
 | k + 1, x5, x102000, x102001, x102002, x103000, x103001, x103002 => if x5 < (x102002.length : Int) then (if 0 ≤ x5 then (if x5 < (x103002.length : Int) then (if (!(((rd_T36 x102002 x5).f0) == ((rd_T36 x103002 x5).f0)) || (!(((rd_T36 x102002 x5).f1) == ((rd_T36 x103002 x5).f1)) || (!(((rd_T36 x102002 x5).f2) == ((rd_T36 x103002 x5).f2)) || (!(((rd_T36 x102002 x5).f3) == ((rd_T36 x103002 x5).f3)))))) = true then (some false) else (laws_eaRas.l0 k (wrap64 (x5 + 1)) x102000 x102001 x102002 x103000 x103001 x103002)) else (none)) else (none)) else (some true)
end
def laws_eaRas.f (k : Nat) (a0_0 : Int) (a0_1 : Int) (l0_2 : List (S36)) (a1_0 : Int) (a1_1 : Int) (l1_2 : List (S36)) : Option (Bool) := if a0_0 = a1_0 then (if a0_1 = a1_1 then (laws_eaRas.j0 k ((l0_2.length : Int) != (l1_2.length : Int)) a0_0 a0_1 l0_2 a1_0 a1_1 l1_2) else (laws_eaRas.j0 k true a0_0 a0_1 l0_2 a1_0 a1_1 l1_2)) else (laws_eaRas.j0 k true a0_0 a0_1 l0_2 a1_0 a1_1 l1_2)
set_option maxHeartbeats 8000000 in
set_option maxRecDepth 100000 in
theorem laws_eaRas.calls (k : Nat) (a0_0 : Int) (a0_1 : Int) (A0_2 : Option Addr) (c0_2 : Nat) (l0_2 : List (S36)) (a1_0 : Int) (a1_1 : Int) (A1_2 : Option Addr) (c1_2 : Nat) (l1_2 : List (S36)) (r : Bool) (w : World) (hr0_2 : Kd.C k36 w A0_2 l0_2.length l0_2) (hc0_2 : l0_2.length ≤ c0_2) (hr1_2 : Kd.C k36 w A1_2 l1_2.length l1_2) (hc1_2 : l1_2.length ≤ c1_2) (h : laws_eaRas.f k a0_0 a0_1 l0_2 a1_0 a1_1 l1_2 = some r) :
  Calls Try.prog 13 #[.agg #[.int .i64 a0_0, .int .i64 a0_1, .slice A0_2 l0_2.length c0_2], .agg #[.int .i64 a1_0, .int .i64 a1_1, .slice A1_2 l1_2.length c1_2]] w fun e w' => e = .returned (.bool r) ∧ Below w.heap.size w w' := by
 have hu25 := Try.underlying25; have hu36 := Try.underlying36; have HR0_2 := yaa hr0_2; have HC0_2 := yaa hc0_2; clear hr0_2 hc0_2; have HR1_2 := yaa hr1_2; have HC1_2 := yaa hc1_2; clear hr1_2 hc1_2; have HB := yaa (Below.refl w.heap.size w); have H : (if a0_0 = a1_0 then (if a0_1 = a1_1 then (laws_eaRas.j0 k ((l0_2.length : Int) != (l1_2.length : Int)) a0_0 a0_1 l0_2 a1_0 a1_1 l1_2) else (laws_eaRas.j0 k true a0_0 a0_1 l0_2 a1_0 a1_1 l1_2)) else (laws_eaRas.j0 k true a0_0 a0_1 l0_2 a1_0 a1_1 l1_2)) = some r := h; clear h; have HC3 := yaa H; clear H
 go_enter Try.func13, Try.ntmps13
 go_upto_region 1 with (first | ((with_reducible refine gd_ 2 rfl ?_); (try (refine gate_guard (by rfl) ?_; dsimp only)); refine bx_ 2 rfl #[.int .i64 a0_0, .int .i64 a0_1, .slice A0_2 l0_2.length c0_2] 25 ?_; intro b1 hg w4 hbox hb; have a6 := yaa (hbox); have c4 := yaa ((by rw [hg]; exact (below_size (upH HB.out)) : w.heap.size ≤ b1)); replace HB := yaa (below_step (upH HB.out) hb); have h1 := c4; clear hb hbox hg) | ((with_reducible refine gd_ 3 rfl ?_); (try (refine gate_guard (by rfl) ?_; dsimp only)); refine bx_ 3 rfl #[.int .i64 a1_0, .int .i64 a1_1, .slice A1_2 l1_2.length c1_2] 25 ?_; intro b2 hg w5 hbox hb; have b0 := yaa (hbox); have c5 := yaa ((by rw [hg]; exact (below_size (by repeat (with_reducible first | exact HB.out | apply yac | apply yab | apply yad | refine below_set ?_ (Aside0.out ‹_›)))) : w.heap.size ≤ b2)); replace HB := yaa (below_step (by repeat (with_reducible first | exact HB.out | apply yac | apply yab | apply yad | refine below_set ?_ (Aside0.out ‹_›))) hb); have h2 := c5; have a8 := yaa ((by rw [hg]; exact Nat.ne_of_lt (blk_lt (upB a6.out)) : b1 ≠ b2)); replace a6 := yaa (blk_below (upB a6.out) hb); have a9 := yaa a8.out.symm; clear hb hbox hg))
 repeat (go_quiet (first | ((with_reducible refine gd_ 2 rfl ?_); (try (refine gate_guard (by rfl) ?_; dsimp only)); refine bx_ 2 rfl #[.int .i64 a0_0, .int .i64 a0_1, .slice A0_2 l0_2.length c0_2] 25 ?_; intro b1 hg w4 hbox hb; have a6 := yaa (hbox); have c4 := yaa ((by rw [hg]; exact (below_size (upH HB.out)) : w.heap.size ≤ b1)); replace HB := yaa (below_step (upH HB.out) hb); have h1 := c4; clear hb hbox hg) | ((with_reducible refine gd_ 3 rfl ?_); (try (refine gate_guard (by rfl) ?_; dsimp only)); refine bx_ 3 rfl #[.int .i64 a1_0, .int .i64 a1_1, .slice A1_2 l1_2.length c1_2] 25 ?_; intro b2 hg w5 hbox hb; have b0 := yaa (hbox); have c5 := yaa ((by rw [hg]; exact (below_size (by repeat (with_reducible first | exact HB.out | apply yac | apply yab | apply yad | refine below_set ?_ (Aside0.out ‹_›)))) : w.heap.size ≤ b2)); replace HB := yaa (below_step (by repeat (with_reducible first | exact HB.out | apply yac | apply yab | apply yad | refine below_set ?_ (Aside0.out ‹_›))) hb); have h2 := c5; have a8 := yaa ((by rw [hg]; exact Nat.ne_of_lt (blk_lt (upB a6.out)) : b1 ≠ b2)); replace a6 := yaa (blk_below (upB a6.out) hb); have a9 := yaa a8.out.symm; clear hb hbox hg)); go_upto_region 1 with (first | ((with_reducible refine gd_ 2 rfl ?_); (try (refine gate_guard (by rfl) ?_; dsimp only)); refine bx_ 2 rfl #[.int .i64 a0_0, .int .i64 a0_1, .slice A0_2 l0_2.length c0_2] 25 ?_; intro b1 hg w4 hbox hb; have a6 := yaa (hbox); have c4 := yaa ((by rw [hg]; exact (below_size (upH HB.out)) : w.heap.size ≤ b1)); replace HB := yaa (below_step (upH HB.out) hb); have h1 := c4; clear hb hbox hg) | ((with_reducible refine gd_ 3 rfl ?_); (try (refine gate_guard (by rfl) ?_; dsimp only)); refine bx_ 3 rfl #[.int .i64 a1_0, .int .i64 a1_1, .slice A1_2 l1_2.length c1_2] 25 ?_; intro b2 hg w5 hbox hb; have b0 := yaa (hbox); have c5 := yaa ((by rw [hg]; exact (below_size (by repeat (with_reducible first | exact HB.out | apply yac | apply yab | apply yad | refine below_set ?_ (Aside0.out ‹_›)))) : w.heap.size ≤ b2)); replace HB := yaa (below_step (by repeat (with_reducible first | exact HB.out | apply yac | apply yab | apply yad | refine below_set ?_ (Aside0.out ‹_›))) hb); have h2 := c5; have a8 := yaa ((by rw [hg]; exact Nat.ne_of_lt (blk_lt (upB a6.out)) : b1 ≠ b2)); replace a6 := yaa (blk_below (upB a6.out) hb); have a9 := yaa a8.out.symm; clear hb hbox hg)))
 (try simp only [Act.put, List.setIfInBounds_toArray, List.set_cons_zero, List.set_cons_succ])
 go_cut [26] (fun v26 wc => ∃ (kq : Nat) (d0 : Bool), v26 = .bool d0 ∧ Aside0 (laws_eaRas.j0 kq d0 a0_0 a0_1 l0_2 a1_0 a1_1 l1_2 = some r) ∧ Aside0 (kq ≤ k) ∧ Aside0 (wc.heap[b1]? = some (.cells #[.int .i64 a0_0, .int .i64 a0_1, (.slice A0_2 l0_2.length c0_2)] 25 (0, 0))) ∧ Aside0 (wc.heap[b2]? = some (.cells #[.int .i64 a1_0, .int .i64 a1_1, (.slice A1_2 l1_2.length c1_2)] 25 (0, 0))) ∧ Aside0 (Below w.heap.size w wc))
 case first =>
  have H := HC3.out; clear HC3
  by_cases c6 : a0_0 = a1_0
  ·
   rw [if_pos c6] at H
   have c9 := beq_iff_eq.mpr c6; have h3 := bne_eq_false_iff_eq.mpr c6; clear c6
   (first | rw [c9] | (simp only [i64_w, i32_w]; rw [c9]) | skip)
   by_cases c7 : a0_1 = a1_1
   ·
    rw [if_pos c7] at H
    have h4 := beq_iff_eq.mpr c7; have h5 := bne_eq_false_iff_eq.mpr c7; clear c7; have H' := yaa H; clear H; have m3 := a8.out; have m4 := a9.out; obtain ⟨g5, g6, g7⟩ := cc3_ a6.out; obtain ⟨g8, g9, h0⟩ := cf3_ a6.out; obtain ⟨d1, d2, d3⟩ := cc3_ b0.out; obtain ⟨d4, d5, d6⟩ := cf3_ b0.out
    go_wp2
    repeat (go_quiet (fail); try go_wp2)
    go_meet
    case rel => exact ⟨_, (((l0_2.length : Int) != (l1_2.length : Int))), (by first | rfl | (simp; done) | (simp [*]; done)), H', ⟨by first | omega | exact Nat.le_refl _⟩, ⟨by exact upB a6.out⟩, ⟨by exact upB b0.out⟩, ⟨by repeat (with_reducible first | exact HB.out | apply yac | apply yab | apply yad | refine below_set ?_ (Aside0.out ‹_›))⟩⟩
   ·
    rw [if_neg c7] at H
    have h4 := beq_eq_false_iff_ne.mpr c7; have h5 := bne_iff_ne.mpr c7; have H' := yaa H; clear H; have l3 := a8.out; have l4 := a9.out; obtain ⟨d7, d8, d9⟩ := cc3_ a6.out; obtain ⟨e0, e1, e2⟩ := cf3_ a6.out; obtain ⟨e3, e4, e5⟩ := cc3_ b0.out; obtain ⟨e6, e7, e8⟩ := cf3_ b0.out
    go_wp2
    repeat (go_quiet (fail); try go_wp2)
    go_meet
    case rel => exact ⟨_, (true), (by first | rfl | (simp; done) | (simp [*]; done)), H', ⟨by first | omega | exact Nat.le_refl _⟩, ⟨by exact upB a6.out⟩, ⟨by exact upB b0.out⟩, ⟨by repeat (with_reducible first | exact HB.out | apply yac | apply yab | apply yad | refine below_set ?_ (Aside0.out ‹_›))⟩⟩
  ·
   rw [if_neg c6] at H
   have c9 := beq_eq_false_iff_ne.mpr c6; have h3 := bne_iff_ne.mpr c6
   (first | rw [c9] | (simp only [i64_w, i32_w]; rw [c9]) | skip)
   have H' := yaa H; clear H; have l5 := a8.out; have l6 := a9.out; obtain ⟨e9, f4, f5⟩ := cc3_ a6.out; obtain ⟨f6, f7, f8⟩ := cf3_ a6.out; obtain ⟨f9, g0, g1⟩ := cc3_ b0.out; obtain ⟨g2, g3, g4⟩ := cf3_ b0.out
   go_wp2
   repeat (go_quiet (fail); try go_wp2)
   go_meet
   case rel => exact ⟨_, (true), (by first | rfl | (simp; done) | (simp [*]; done)), H', ⟨by first | omega | exact Nat.le_refl _⟩, ⟨by exact upB a6.out⟩, ⟨by exact upB b0.out⟩, ⟨by repeat (with_reducible first | exact HB.out | apply yac | apply yab | apply yad | refine below_set ?_ (Aside0.out ‹_›))⟩⟩
 case rest =>
  clear HC3; (try clear c1); (try clear p2); (try clear c6); (try clear c9); (try clear h3); (try clear c7); (try clear h4); (try clear h5); (try clear c8); (try clear c11); (try clear c13); (try clear c14); (try clear d1); (try clear d2); (try clear d3); (try clear d7); (try clear d8); (try clear d9); (try clear e3); (try clear e4); (try clear e5); (try clear e9); (try clear f4); (try clear f5); (try clear f9); (try clear g0); (try clear g1); (try clear g5); (try clear g6); (try clear g7); (try clear d4); (try clear d5); (try clear d6); (try clear e0); (try clear e1); (try clear e2); (try clear e6); (try clear e7); (try clear e8); (try clear f6); (try clear f7); (try clear f8); (try clear g2); (try clear g3); (try clear g4); (try clear g8); (try clear g9); (try clear h0); obtain ⟨kq, d0, rfl, HA, HJ2, a6, b0, HB⟩ := hcut
  cases kq with
  | zero => exact absurd HA.out (by simp [laws_eaRas.j0])
  | succ kj2 =>
   have H := HA.out; clear HA
   simp only [laws_eaRas.j0] at H
   by_cases c17 : d0 = true
   ·
    subst c17
    rw [if_pos rfl] at H
    obtain rfl := Option.some.inj H
    go_wp2
    repeat (go_quiet (fail); try go_wp2)
    go_ret
    exact ⟨by first | rfl | (simp [*, errW_none, errW_some] <;> rfl), by repeat (with_reducible first | exact HB.out | apply yac | apply yab | apply yad | refine below_set ?_ (Aside0.out ‹_›))⟩
   ·
    replace c17 := Bool.eq_false_iff.mpr c17
    subst c17
    rw [if_neg (show ¬ (false = true) by decide)] at H
    have H' := yaa H; clear H
    go_wp2
    repeat (go_quiet (fail); try go_wp2)
    (try simp only [Act.put, List.setIfInBounds_toArray, List.set_cons_zero, List.set_cons_succ])
    go_loopg [5] kj2 (fun kq v5 w' => ∃ (a7 : Int), v5 = .int .i64 a7 ∧ Aside0 (laws_eaRas.l0 kq a7 a0_0 a0_1 l0_2 a1_0 a1_1 l1_2 = some r) ∧ Aside0 (kq ≤ kj2) ∧ Aside0 (w'.heap[b1]? = some (.cells #[.int .i64 a0_0, .int .i64 a0_1, (.slice A0_2 l0_2.length c0_2)] 25 (0, 0))) ∧ Aside0 (w'.heap[b2]? = some (.cells #[.int .i64 a1_0, .int .i64 a1_1, (.slice A1_2 l1_2.length c1_2)] 25 (0, 0))) ∧ Aside0 (Below w.heap.size w w'))
    case atStart => exact ⟨(0), (by first | rfl | (simp; done) | (simp [*]; done)), H', ⟨Nat.le_refl _⟩, ⟨by exact upB a6.out⟩, ⟨by exact upB b0.out⟩, ⟨by repeat (with_reducible first | exact HB.out | apply yac | apply yab | apply yad | refine below_set ?_ (Aside0.out ‹_›))⟩⟩
    case round =>
     clear H'; (try clear c1); (try clear p2); (try clear c6); (try clear c9); (try clear h3); (try clear c7); (try clear h4); (try clear h5); (try clear c8); (try clear c11); (try clear c13); (try clear c14); (try clear c17); (try clear d1); (try clear d2); (try clear d3); (try clear d7); (try clear d8); (try clear d9); (try clear e3); (try clear e4); (try clear e5); (try clear e9); (try clear f4); (try clear f5); (try clear f9); (try clear g0); (try clear g1); (try clear g5); (try clear g6); (try clear g7); (try clear d4); (try clear d5); (try clear d6); (try clear e0); (try clear e1); (try clear e2); (try clear e6); (try clear e7); (try clear e8); (try clear f6); (try clear f7); (try clear f8); (try clear g2); (try clear g3); (try clear g4); (try clear g8); (try clear g9); (try clear h0); (try clear p2); obtain ⟨a7, rfl, HA, HK2, a6, b0, HB⟩ := hrel
     cases gk with
     | zero => exact absurd HA.out (by simp [laws_eaRas.l0])
     | succ k2 =>
      have H := HA.out; clear HA
      simp only [laws_eaRas.l0] at H
      by_cases c18 : a7 < (l0_2.length : Int)
      ·
       rw [if_pos c18] at H
       have h8 : decide (a7 < (l0_2.length : Int)) = true := decide_eq_true c18; clear c18
       by_cases c19 : 0 ≤ a7
       ·
        rw [if_pos c19] at H
        replace c19 := decide_eq_true c19
        by_cases c20 : a7 < (l1_2.length : Int)
        ·
         rw [if_pos c20] at H
         replace c20 := decide_eq_true c20
         by_cases c21 : (!(((rd_T36 l0_2 a7).f0) == ((rd_T36 l1_2 a7).f0)) || (!(((rd_T36 l0_2 a7).f1) == ((rd_T36 l1_2 a7).f1)) || (!(((rd_T36 l0_2 a7).f2) == ((rd_T36 l1_2 a7).f2)) || (!(((rd_T36 l0_2 a7).f3) == ((rd_T36 l1_2 a7).f3)))))) = true
         ·
          rw [if_pos c21] at H
          have h9 : (!(((rd_T36 l0_2 a7).f0) == ((rd_T36 l1_2 a7).f0)) || (!(((rd_T36 l0_2 a7).f1) == ((rd_T36 l1_2 a7).f1)) || (!(((rd_T36 l0_2 a7).f2) == ((rd_T36 l1_2 a7).f2)) || (!(((rd_T36 l0_2 a7).f3) == ((rd_T36 l1_2 a7).f3)))))) = true := c21; clear c21; obtain rfl := Option.some.inj H; have l7 := a8.out; have l8 := a9.out; obtain ⟨i0, i1, i2⟩ := cc3_ a6.out; obtain ⟨i3, i4, i5⟩ := cf3_ a6.out; have p103 : 0 ≤ (a7 : Int) := of_decide_eq_true (by assumption); have q103 : a7 < (l0_2.length : Int) := of_decide_eq_true (by assumption); obtain ⟨ad103, h6, b3, b4, b5, b6⟩ := at_T36 HR0_2.out a7 p103 q103
          cases h6
          replace b3 := upc_ HB.out b3; replace b4 := upc_ HB.out b4; replace b5 := upc_ HB.out b5; replace b6 := upc_ HB.out b6; replace p103 := eq_true p103; replace q103 := eq_true q103; obtain ⟨i6, i7, i8⟩ := cc3_ b0.out; obtain ⟨i9, j1, j2⟩ := cf3_ b0.out; have p104 : 0 ≤ (a7 : Int) := of_decide_eq_true (by assumption); have q104 : a7 < (l1_2.length : Int) := of_decide_eq_true (by assumption); obtain ⟨ad104, h7, b7, b8, b9, c0⟩ := at_T36 HR1_2.out a7 p104 q104
          cases h7
          replace b7 := upc_ HB.out b7; replace b8 := upc_ HB.out b8; replace b9 := upc_ HB.out b9; replace c0 := upc_ HB.out c0; replace p104 := eq_true p104; replace q104 := eq_true q104
          go_wp2
          repeat (go_quiet (fail); try go_wp2)
          go_ret
          exact ⟨by first | rfl | (simp [*, errW_none, errW_some] <;> rfl), by repeat (with_reducible first | exact HB.out | apply yac | apply yab | apply yad | refine below_set ?_ (Aside0.out ‹_›))⟩
         ·
          rw [if_neg c21] at H
          have h9 : (!(((rd_T36 l0_2 a7).f0) == ((rd_T36 l1_2 a7).f0)) || (!(((rd_T36 l0_2 a7).f1) == ((rd_T36 l1_2 a7).f1)) || (!(((rd_T36 l0_2 a7).f2) == ((rd_T36 l1_2 a7).f2)) || (!(((rd_T36 l0_2 a7).f3) == ((rd_T36 l1_2 a7).f3)))))) = false := (by simpa using c21); clear c21; have H' := yaa H; clear H; have l9 := a8.out; have m0 := a9.out; obtain ⟨j3, j4, j5⟩ := cc3_ a6.out; obtain ⟨j6, j7, j8⟩ := cf3_ a6.out; have p103 : 0 ≤ (a7 : Int) := of_decide_eq_true (by assumption); have q103 : a7 < (l0_2.length : Int) := of_decide_eq_true (by assumption); obtain ⟨ad103, h6, b3, b4, b5, b6⟩ := at_T36 HR0_2.out a7 p103 q103
          cases h6
          replace b3 := upc_ HB.out b3; replace b4 := upc_ HB.out b4; replace b5 := upc_ HB.out b5; replace b6 := upc_ HB.out b6; replace p103 := eq_true p103; replace q103 := eq_true q103; obtain ⟨j9, k0, k1⟩ := cc3_ b0.out; obtain ⟨k3, k4, k5⟩ := cf3_ b0.out; have p104 : 0 ≤ (a7 : Int) := of_decide_eq_true (by assumption); have q104 : a7 < (l1_2.length : Int) := of_decide_eq_true (by assumption); obtain ⟨ad104, h7, b7, b8, b9, c0⟩ := at_T36 HR1_2.out a7 p104 q104
          cases h7
          replace b7 := upc_ HB.out b7; replace b8 := upc_ HB.out b8; replace b9 := upc_ HB.out b9; replace c0 := upc_ HB.out c0; replace p104 := eq_true p104; replace q104 := eq_true q104
          go_wp2
          repeat (go_quiet (fail); try go_wp2)
          go_roundg k2
          case measure => have := HJ2.out; have := HK2.out; omega
          case rel => exact ⟨(wrap64 (a7 + 1)), (by first | rfl | (simp; done) | (simp [*]; done)), H', ⟨by have := HJ2.out; have := HK2.out; omega⟩, ⟨by exact upB a6.out⟩, ⟨by exact upB b0.out⟩, ⟨by repeat (with_reducible first | exact HB.out | apply yac | apply yab | apply yad | refine below_set ?_ (Aside0.out ‹_›))⟩⟩
        ·
         rw [if_neg c20] at H
         exact absurd H (by simp)
       ·
        rw [if_neg c19] at H
        exact absurd H (by simp)
      ·
       rw [if_neg c18] at H
       have h8 : decide (a7 < (l0_2.length : Int)) = false := decide_eq_false c18; clear c18; obtain rfl := Option.some.inj H; have m1 := a8.out; have m2 := a9.out; obtain ⟨k6, k7, k8⟩ := cc3_ a6.out; obtain ⟨k9, l1, l2⟩ := cf3_ a6.out
       go_wp2
       repeat (go_quiet (fail); try go_wp2)
       go_ret
       exact ⟨by first | rfl | (simp [*, errW_none, errW_some] <;> rfl), by repeat (with_reducible first | exact HB.out | apply yac | apply yab | apply yad | refine below_set ?_ (Aside0.out ‹_›))⟩
end
section
def laws_eaOk.f  : Option (Bool) := (impl_PixOk.f 1 2 3 4).bind fun t101 => (some t101)
set_option maxHeartbeats 8000000 in
set_option maxRecDepth 100000 in
theorem laws_eaOk.calls  (r : Bool) (w : World) (h : laws_eaOk.f  = some r) :
    Calls Try.prog 14 #[] w fun e w' => e = .returned (.bool r) ∧ Below w.heap.size w w' := by
  have hu36 := Try.underlying36; have HB := Aside0.mk (Below.refl w.heap.size w); have H : ((impl_PixOk.f 1 2 3 4).bind fun t101 => (some t101)) = some r := h; clear h; obtain ⟨t101, A1, H⟩ := bindA H; (try dsimp only at H); obtain rfl := Option.some.inj H
  go_enter Try.func14, Try.ntmps14
  go_wp2_with (first | ((with_reducible refine gc_ 40 rfl ?_); refine gl_ (some 2) rfl Try.func40 #[.agg #[.int .i64 1, .int .i64 2, .int .i64 3, .int .i64 4]] ?_; (with_reducible refine (impl_PixOk.calls 1 2 3 4 t101 _ A1.out).mono ?_); rintro e w2 ⟨rfl, hb⟩; refine ⟨_, rfl, ?_⟩; replace HB := Aside0.mk (below_step (upH HB.out) hb); (try clear hb)))
  go_ret
  exact ⟨by first | rfl | (simp [*, errW_none, errW_some] <;> rfl), upH HB.out⟩
end
section
def IsS86 (w0 W : World) (g : Nat) (f0 : List Int) (f1 : Int) : Prop := ∃ A0 c0, W.heap[g]? = some (.cells #[.slice A0 f0.length c0, .int .i64 f1] 86 (0, 0)) ∧ w0.heap.size ≤ g ∧ Kd.C (Kd.int .u8) w0 A0 f0.length f0
theorem IsS86.grown {w0 W : World} {g : Nat} {f0 : List Int} {f1 : Int} {W1 : World} {row : Option Nat} (h : IsS86 w0 W g f0 f1) (hw : W.grownBy W1 row) (hne : some g ≠ row) : IsS86 w0 W1 g f0 f1 := by
  obtain ⟨A0, c0, hb, hg, hr0⟩ := h
  exact ⟨A0, c0, blk_grown hb hw hne, hg, hr0⟩
theorem IsS86.kept {w0 W : World} {g : Nat} {f0 : List Int} {f1 : Int} {W1 : World} {S : Nat → Prop} (h : IsS86 w0 W g f0 f1) (hk : Kept W W1 S) (hne : ¬ S g) : IsS86 w0 W1 g f0 f1 := by
  obtain ⟨A0, c0, hb, hg, hr0⟩ := h
  exact ⟨A0, c0, blk_kept hb hk hne, hg, hr0⟩
theorem IsS86.below {w0 W : World} {g : Nat} {f0 : List Int} {f1 : Int} {W1 : World} (h : IsS86 w0 W g f0 f1) (hw : Below W.heap.size W W1) : IsS86 w0 W1 g f0 f1 := h.grown (grown_of_below hw none) (by simp)
theorem IsS86.alloc {w0 W : World} {g : Nat} {f0 : List Int} {f1 : Int} (h : IsS86 w0 W g f0 f1) (o : Obj) : IsS86 w0 (W.alloc o) g f0 f1 := h.below (below_alloc (Below.refl _ _) o)
theorem IsS86.drewN {w0 W : World} {g : Nat} {f0 : List Int} {f1 : Int} (h : IsS86 w0 W g f0 f1) (m : Nat) : IsS86 w0 (W.drewN m) g f0 f1 := h
theorem IsS86.drew {w0 W : World} {g : Nat} {f0 : List Int} {f1 : Int} (h : IsS86 w0 W g f0 f1) : IsS86 w0 W.drew g f0 f1 := h
theorem IsS86.at_ {w0 W : World} {g : Nat} {f0 : List Int} {f1 : Int} {w' : World} {m : Nat} (hq : W.drewN m = w') (h : IsS86 w0 W g f0 f1) : IsS86 w0 w' g f0 f1 := by subst hq; exact IsS86.drewN h m
theorem IsS86.apart {w0 W : World} {g : Nat} {f0 : List Int} {f1 : Int} {α : Type} {d : Kd α} {e : Nat} {base : Nat} {ok : Nat → Prop} {v : Value} {xs : List α} (h : IsS86 w0 W g f0 f1) (ho : d.R e W base ok v xs) (ht : ∀ q, q ∈ e :: d.E → q ≠ 86) : d.R e W base (fun k => ok k ∧ k ≠ g) v xs := by
  obtain ⟨A0, c0, hb, hg, hr0⟩ := h
  exact Kd.R_types ho hb ht
theorem IsS86.own_ne {w0 W : World} {g : Nat} {f0 : List Int} {f1 : Int} {α : Type} {d : Kd α} {e : Nat} {base : Nat} {ok : Nat → Prop} {v : Value} {xs : List α} (h : IsS86 w0 W g f0 f1) (ho : d.R e W base ok v xs) (ht : e ≠ 86) : some g ≠ v.ownBlock := by
  obtain ⟨A0, c0, hb, hg, hr0⟩ := h
  exact Kd.R_ne ho hb ht
theorem IsS86.apartQ {w0 W : World} {g : Nat} {f0 : List Int} {f1 : Int} {α : Type} {d : Kd α} {e : Nat} {base : Nat} {ok : Nat → Prop} {v : Value} {xs : List α} (h : IsS86 w0 W g f0 f1) (ho : d.Q e W base ok v xs) (ht : ∀ q, q ∈ e :: d.E → q ≠ 86) : d.Q e W base (fun k => ok k ∧ k ≠ g) v xs := by
  obtain ⟨A0, c0, hb, hg, hr0⟩ := h
  exact Kd.Q_types ho hb ht
theorem IsS86.own_neQ {w0 W : World} {g : Nat} {f0 : List Int} {f1 : Int} {α : Type} {d : Kd α} {e : Nat} {base : Nat} {ok : Nat → Prop} {v : Value} {xs : List α} (h : IsS86 w0 W g f0 f1) (ho : d.Q e W base ok v xs) (ht : e ≠ 86) : some g ≠ v.ownBlock := by
  obtain ⟨A0, c0, hb, hg, hr0⟩ := h
  exact Kd.Q_ne ho hb ht
theorem IsS86.lt {w0 W : World} {g : Nat} {f0 : List Int} {f1 : Int} (h : IsS86 w0 W g f0 f1) : g < W.heap.size := by
  obtain ⟨A0, c0, hb, hg, hr0⟩ := h
  exact blk_lt hb
theorem IsS86.ge {w0 W : World} {g : Nat} {f0 : List Int} {f1 : Int} (h : IsS86 w0 W g f0 f1) : w0.heap.size ≤ g := by
  obtain ⟨A0, c0, hb, hg, hr0⟩ := h
  exact hg
theorem IsS86.ne_blk {w0 W : World} {g : Nat} {f0 : List Int} {f1 : Int} {a : Nat} {cs : Array Value} {t : TypeId} {fr : Nat × Nat} (h : IsS86 w0 W g f0 f1) (hb2 : W.heap[a]? = some (.cells cs t fr)) (ht : t ≠ 86) : g ≠ a := by
  obtain ⟨A0, c0, hb, hg, hr0⟩ := h
  rintro rfl
  rw [hb] at hb2
  injection hb2 with hb2
  injection hb2 with _ ht2
  exact ht ht2.symm
theorem IsS86.far {w0 W : World} {g : Nat} {f0 : List Int} {f1 : Int} {p : Addr} (h : IsS86 w0 W g f0 f1) (hne : g ≠ p.block) (u : Value) : IsS86 w0 (W.setCell p u) g f0 f1 := by
  obtain ⟨A0, c0, hb, hg, hr0⟩ := h
  exact ⟨A0, c0, blk_far hb hne u, hg, hr0⟩
theorem cellS86_0 {W : World} {g : Nat} {A0 : Option Addr} {c0 : Nat} {f0 : List Int} {f1 : Int} (h : W.heap[g]? = some (.cells #[.slice A0 f0.length c0, .int .i64 f1] 86 (0, 0))) : W.cell? ⟨g, 0, none⟩ = some (.slice A0 f0.length c0) := (blk_cell h 0).trans rfl
theorem cellS86_1 {W : World} {g : Nat} {A0 : Option Addr} {c0 : Nat} {f0 : List Int} {f1 : Int} (h : W.heap[g]? = some (.cells #[.slice A0 f0.length c0, .int .i64 f1] 86 (0, 0))) : W.cell? ⟨g, 1, none⟩ = some (.int .i64 f1) := (blk_cell h 1).trans rfl
theorem IsS86.set_1 {w0 W : World} {g : Nat} {f0 : List Int} {f1 : Int} (h : IsS86 w0 W g f0 f1) (x : Int) : IsS86 w0 (W.setCell ⟨g, 1, none⟩ (.int .i64 x)) g f0 x := by
  obtain ⟨A0, c0, hb, hg, hr0⟩ := h
  exact ⟨A0, c0, by simpa using blk_set hb 1 (.int .i64 x), hg, hr0⟩
theorem IsS86.new (w0 W : World) (A0 : Option Addr) (c0 : Nat) (f0 : List Int) (f1 : Int) (hB : Below w0.heap.size w0 W) (hr0 : Kd.C (Kd.int .u8) w0 A0 f0.length f0) : IsS86 w0 (W.alloc (.cells #[.slice A0 f0.length c0, .int .i64 f1] 86)) W.heap.size f0 f1 := ⟨A0, c0, by simpa using heap_alloc_new W _, hB.size, hr0⟩
open Go.Proofs.YtoifpgkfpdeglaaW.PrintWords.Aside0 renaming mk → yaa
def spec_l20Open.f (l0 : List Int) : Option (List Int × Int) := if (l0.length : Int) > 2000 then (if 2000 ≤ (l0.length : Int) then (some (l0.take 2000, 0)) else (none)) else (some (l0, 0))
set_option maxHeartbeats 8000000 in
set_option maxRecDepth 100000 in
theorem spec_l20Open.calls (A0 : Option Addr) (c0 : Nat) (l0 : List Int) (r1 : List Int) (r2 : Int) (w0 w : World) (hB : Below w0.heap.size w0 w) (hr0 : Kd.C (Kd.int .u8) w0 A0 l0.length l0) (hc0 : l0.length ≤ c0) (h : spec_l20Open.f l0 = some (r1, r2)) :
  Calls Try.prog 33 #[.slice A0 l0.length c0] w fun e w' => ∃ g_ : Nat, e = .returned (.pointer (some ⟨g_, 0, none⟩)) ∧ IsS86 w0 w' g_ r1 r2 ∧ Below w0.heap.size w0 w' ∧ Below w.heap.size w w' := by
 have hu86 := Try.underlying86; have HR0 := yaa hr0; have HC0 := yaa hc0; clear hr0 hc0; have HBW := yaa (Below.refl w.heap.size w); have HW0 := yaa hB.size; have HB := yaa hB; clear hB; have H : (if (l0.length : Int) > 2000 then (if 2000 ≤ (l0.length : Int) then (some (l0.take 2000, 0)) else (none)) else (some (l0, 0))) = some (r1, r2) := h; clear h
 by_cases c2 : (l0.length : Int) > 2000
 ·
  rw [if_pos c2] at H
  have a7 : decide (2000 < (l0.length : Int)) = true := decide_eq_true c2; have a8 : decide (2000 < l0.length) = true := decide_eq_true (by omega); clear c2
  by_cases c3 : 2000 ≤ (l0.length : Int)
  ·
   rw [if_pos c3] at H
   have b1 := eq_true c3; replace c3 := decide_eq_true c3
   simp only [Option.some.injEq, Prod.mk.injEq] at H
   obtain ⟨rfl, rfl⟩ := H; obtain ⟨i04, hi04, _, a2, _⟩ := info_parts info5; obtain ⟨hcut4, hA4, hC4⟩ := print_take_of (P := Try.prog) (Value.int .u8) 0 22 5 .i64 Try.underlying22 hi04 a2 A0 c0 l0 2000 (by omega) (of_decide_eq_true (by assumption)) HC0.out; have HR101 := yaa (Kd.C_of_reads (h1 := fun _ => rfl) (hA4 _ (Kd.reads_of_C HR0.out))); have HC101 := yaa hC4; clear hA4 hC4 hi04 a2
   go_enter Try.func33, Try.ntmps33
   go_wp2_with (first | ((with_reducible refine gd_ 10 rfl ?_); refine bx_ 10 rfl #[.slice A0 (l0.take 2000).length c0, .int .i64 0] 86 ?_; intro a0 hg w5 hbox hb; replace HB := yaa (below_step (upH HB.out) hb); have a3 := yaa (hbox); have a9 := yaa ((by rw [hg]; exact (below_size (upH HBW.out)) : w.heap.size ≤ a0)); have a4 := yaa ((Nat.le_trans HW0.out (by rw [hg]; exact (below_size (upH HBW.out)) : w.heap.size ≤ a0) : w0.heap.size ≤ a0)); replace HBW := yaa (below_step HBW.out hb); clear hb hbox hg))
   go_ret
   exact ⟨_, rfl, (show IsS86 w0 _ a0 (l0.take 2000) 0 from ⟨_, _, by exact upB a3.out, a4.out, HR101.out⟩), by repeat (with_reducible first | exact HB.out | apply below_alloc | apply pw_below_drewN | apply below_drew1 | refine below_set ?_ (Aside0.out ‹_›)), by repeat (with_reducible first | exact HBW.out | apply below_alloc | apply pw_below_drewN | apply below_drew1 | refine below_set ?_ (Aside0.out ‹_›))⟩
  ·
   rw [if_neg c3] at H
   exact absurd H (by simp)
 ·
  rw [if_neg c2] at H
  have a7 : decide (2000 < (l0.length : Int)) = false := decide_eq_false c2; have a8 : decide (2000 < l0.length) = false := decide_eq_false (by omega); clear c2
  simp only [Option.some.injEq, Prod.mk.injEq] at H
  obtain ⟨rfl, rfl⟩ := H
  go_enter Try.func33, Try.ntmps33
  go_wp2_with (first | ((with_reducible refine gd_ 10 rfl ?_); refine bx_ 10 rfl #[.slice A0 l0.length c0, .int .i64 0] 86 ?_; intro a1 hg w6 hbox hb; replace HB := yaa (below_step (upH HB.out) hb); have a5 := yaa (hbox); have b0 := yaa ((by rw [hg]; exact (below_size (upH HBW.out)) : w.heap.size ≤ a1)); have a6 := yaa ((Nat.le_trans HW0.out (by rw [hg]; exact (below_size (upH HBW.out)) : w.heap.size ≤ a1) : w0.heap.size ≤ a1)); replace HBW := yaa (below_step HBW.out hb); clear hb hbox hg))
  go_ret
  exact ⟨_, rfl, (show IsS86 w0 _ a1 l0 0 from ⟨_, _, by exact upB a5.out, a6.out, HR0.out⟩), by repeat (with_reducible first | exact HB.out | apply below_alloc | apply pw_below_drewN | apply below_drew1 | refine below_set ?_ (Aside0.out ‹_›)), by repeat (with_reducible first | exact HBW.out | apply below_alloc | apply pw_below_drewN | apply below_drew1 | refine below_set ?_ (Aside0.out ‹_›))⟩
end
section
def spec_l20Rd_pick.j0 : Nat → Int → Bool → List Int → Int → Option (Int × Int)
 | 0, _, _, _, _ => none
 | k + 1, x1, x24, x1000, x1001 => if x24 = true then (some (0, x1001)) else (if (wrap64 (x1001 - 1)) < (x1000.length : Int) then (if 0 ≤ (wrap64 (x1001 - 1)) then (if x1 = 0 then (none) else (some (Int.tmod (wrap64 (rd x1000 (wrap64 (x1001 - 1)))) x1, x1001))) else (none)) else (if (x1000.length : Int) = 0 then (none) else (if 0 ≤ (Int.tmod (wrap64 (x1001 - 1)) (x1000.length : Int)) then (if (Int.tmod (wrap64 (x1001 - 1)) (x1000.length : Int)) < (x1000.length : Int) then (if 0 ≤ (Int.tmod (wrap64 ((wrap64 ((wrap64 (x1001 - 1)) * 7)) + 3)) (x1000.length : Int)) then (if (Int.tmod (wrap64 ((wrap64 ((wrap64 (x1001 - 1)) * 7)) + 3)) (x1000.length : Int)) < (x1000.length : Int) then (if x1 = 0 then (none) else (some (Int.tmod (Go.bits .xor .i64 (wrap64 ((wrap64 ((wrap64 ((wrap64 ((wrap64 (rd x1000 (Int.tmod (wrap64 (x1001 - 1)) (x1000.length : Int)))) * 131)) + (wrap64 ((wrap64 (rd x1000 (Int.tmod (wrap64 ((wrap64 ((wrap64 (x1001 - 1)) * 7)) + 3)) (x1000.length : Int)))) * 1117)))) + (wrap64 ((wrap64 (x1001 - 1)) * 29)))) + (wrap64 ((wrap64 (Int.tdiv (wrap64 (x1001 - 1)) (x1000.length : Int))) * 53)))) (wrap64 (Int.tdiv (wrap64 ((wrap64 ((wrap64 ((wrap64 ((wrap64 (rd x1000 (Int.tmod (wrap64 (x1001 - 1)) (x1000.length : Int)))) * 131)) + (wrap64 ((wrap64 (rd x1000 (Int.tmod (wrap64 ((wrap64 ((wrap64 (x1001 - 1)) * 7)) + 3)) (x1000.length : Int)))) * 1117)))) + (wrap64 ((wrap64 (x1001 - 1)) * 29)))) + (wrap64 ((wrap64 (Int.tdiv (wrap64 (x1001 - 1)) (x1000.length : Int))) * 53)))) 64))) x1, x1001))) else (none)) else (none)) else (none)) else (none))))
def spec_l20Rd_pick.f (k : Nat) (s0_0 : List Int) (s0_1 : Int) (a1 : Int) : Option (Int × Int) := if a1 < 1 then (spec_l20Rd_pick.j0 k a1 true s0_0 (wrap64 (s0_1 + 1))) else (spec_l20Rd_pick.j0 k a1 ((s0_0.length : Int) == 0) s0_0 (wrap64 (s0_1 + 1)))
set_option maxHeartbeats 8000000 in
set_option maxRecDepth 100000 in
theorem spec_l20Rd_pick.calls (k : Nat) (g : Nat) (s0_0 : List Int) (s0_1 : Int) (a1 : Int) (r1 : Int) (r2 : Int) (w0 w : World) (hI : IsS86 w0 w g s0_0 s0_1) (hB : Below w0.heap.size w0 w) (h : spec_l20Rd_pick.f k s0_0 s0_1 a1 = some (r1, r2)) :
  Calls Try.prog 44 #[.pointer (some ⟨g, 0, none⟩), .int .i64 a1] w fun e w' => e = .returned (.int .i64 r1) ∧ IsS86 w0 w' g s0_0 r2 ∧ Below w0.heap.size w0 w' ∧ KeepBut w w' g none := by
 have HI0 := Aside0.mk hI; have HK := Aside0.mk (KeepBut.refl w g none); have HL := Aside0.mk hB.size; clear hI; have HW0 := Aside0.mk hB.size; have HB := Aside0.mk hB; clear hB; have H : (if a1 < 1 then (spec_l20Rd_pick.j0 k a1 true s0_0 (wrap64 (s0_1 + 1))) else (spec_l20Rd_pick.j0 k a1 ((s0_0.length : Int) == 0) s0_0 (wrap64 (s0_1 + 1)))) = some (r1, r2) := h; clear h; have HC3 := Aside0.mk H; clear H; obtain ⟨d1, d2, HGz4, hgz4, HSz4_0⟩ := HI0.out; have b0 := cellS86_0 HGz4; have b1 := cellS86_1 HGz4; have b2 := blk_frozen HGz4 1; clear HGz4 hgz4
 go_enter Try.func44, Try.ntmps44
 go_upto_region 2 with (fail)
 repeat (go_quiet (fail); go_upto_region 2 with (fail))
 go_cut [24] (fun v24 wc => ∃ (kq : Nat) (a5 : Bool), v24 = .bool a5 ∧ Aside0 (spec_l20Rd_pick.j0 kq a1 a5 s0_0 (wrap64 (s0_1 + 1)) = some (r1, r2)) ∧ Aside0 (kq ≤ k) ∧ Aside0 (IsS86 w0 wc g s0_0 (wrap64 (s0_1 + 1))) ∧ Aside0 (KeepBut w wc g none) ∧ Aside0 (Below w0.heap.size w0 wc))
 case first =>
  have H := HC3.out; clear HC3
  by_cases c5 : a1 < 1
  ·
   rw [if_pos c5] at H
   have a9 : decide (a1 < 1) = true := decide_eq_true c5; clear c5
   (first | rw [a9] | (simp only [i64_w, i32_w]; rw [a9]) | skip)
   have H' := Aside0.mk H; clear H
   go_wp2
   repeat (go_quiet (fail); try go_wp2)
   go_meet
   case rel => exact ⟨_, (true), (by first | rfl | (simp; done) | (simp [*]; done)), H', ⟨by first | omega | exact Nat.le_refl _⟩, ⟨by repeat (with_reducible first | exact HI0.out | apply IsS86.alloc | apply IsS86.drewN | apply IsS86.drew | apply IsS86.set_1)⟩, ⟨by repeat (with_reducible first | exact HK.out | apply KeepBut.set_ | apply keep_drewN | apply keep_drew | apply keep_alloc)⟩, ⟨by repeat (with_reducible first | exact HB.out | apply below_alloc | apply pw_below_drewN | apply below_drew1 | refine below_set ?_ (IsS86.ge HI0.out))⟩⟩
  ·
   rw [if_neg c5] at H
   have a9 : decide (a1 < 1) = false := decide_eq_false c5; clear c5
   (first | rw [a9] | (simp only [i64_w, i32_w]; rw [a9]) | skip)
   have H' := Aside0.mk H; clear H; obtain ⟨d3, d4, HGz6, hgz6, HSz6_0⟩ := HI0.out; have b3 := cellS86_0 HGz6; have b4 := cellS86_1 HGz6; have b5 := blk_frozen HGz6 1; clear HGz6 hgz6
   go_wp2
   repeat (go_quiet (fail); try go_wp2)
   go_meet
   case rel => exact ⟨_, (((s0_0.length : Int) == 0)), (by first | rfl | (simp; done) | (simp [*]; done)), H', ⟨by first | omega | exact Nat.le_refl _⟩, ⟨by repeat (with_reducible first | exact HI0.out | apply IsS86.alloc | apply IsS86.drewN | apply IsS86.drew | apply IsS86.set_1)⟩, ⟨by repeat (with_reducible first | exact HK.out | apply KeepBut.set_ | apply keep_drewN | apply keep_drew | apply keep_alloc)⟩, ⟨by repeat (with_reducible first | exact HB.out | apply below_alloc | apply pw_below_drewN | apply below_drew1 | refine below_set ?_ (IsS86.ge HI0.out))⟩⟩
 case rest =>
  clear HC3; (try clear p2); (try clear c4); (try clear c5); (try clear a9); (try clear p6); (try clear b0); (try clear b1); (try clear b3); (try clear b4); (try clear b2); (try clear b5); obtain ⟨kq, a5, rfl, HA, HJ2, HI0, HK, HB⟩ := hcut
  cases kq with
  | zero => exact absurd HA.out (by simp [spec_l20Rd_pick.j0])
  | succ kj2 =>
   have H := HA.out; clear HA
   simp only [spec_l20Rd_pick.j0] at H
   by_cases c7 : a5 = true
   ·
    subst c7
    rw [if_pos rfl] at H
    simp only [Option.some.injEq, Prod.mk.injEq] at H
    obtain ⟨rfl, rfl⟩ := H
    go_wp2
    repeat (go_quiet (fail); try go_wp2)
    go_ret
    exact ⟨by first | rfl | (simp [*, errW_none, errW_some] <;> rfl), by repeat (with_reducible first | exact HI0.out | apply IsS86.alloc | apply IsS86.drewN | apply IsS86.drew | apply IsS86.set_1), by repeat (with_reducible first | exact HB.out | apply below_alloc | apply pw_below_drewN | apply below_drew1 | refine below_set ?_ (IsS86.ge HI0.out)), by repeat (with_reducible first | exact HK.out | apply KeepBut.set_ | apply keep_drewN | apply keep_drew | apply keep_alloc)⟩
   ·
    replace c7 := Bool.eq_false_iff.mpr c7
    subst c7
    rw [if_neg (show ¬ (false = true) by decide)] at H
    by_cases c8 : (wrap64 ((wrap64 (s0_1 + 1)) - 1)) < (s0_0.length : Int)
    ·
     rw [if_pos c8] at H
     have b6 : decide ((wrap64 ((wrap64 (s0_1 + 1)) - 1)) < (s0_0.length : Int)) = true := decide_eq_true c8; clear c8; obtain ⟨ji9, hji9⟩ : ∃ j_ : Int, (wrap64 ((wrap64 (s0_1 + 1)) - 1)) = j_ := ⟨_, rfl⟩
     replace H : (if 0 ≤ (ji9) then (if a1 = 0 then (none) else (some (Int.tmod (wrap64 (rd s0_0 (ji9))) a1, (wrap64 (s0_1 + 1))))) else (none)) = some (r1, r2) := by first | (rw [hji9] at H; exact H) | (simp only [hji9] at H ⊢; exact H)
     (try rw [hji9] at b6)
     have hji9w : (IntKind.i64.wrap ((wrap64 (s0_1 + 1)) - 1)) = ji9 := (i64_w _).trans hji9
     by_cases c10 : 0 ≤ (ji9)
     ·
      rw [if_pos c10] at H
      replace c10 := decide_eq_true c10
      by_cases c11 : a1 = 0
      ·
       rw [if_pos c11] at H
       exact absurd H (by simp)
      ·
       rw [if_neg c11] at H
       have d8 := beq_eq_false_iff_ne.mpr c11; have d9 := bne_iff_ne.mpr c11
       simp only [Option.some.injEq, Prod.mk.injEq] at H
       obtain ⟨rfl, rfl⟩ := H; obtain ⟨b7, b8, HGz12, hgz12, HSz12_0⟩ := HI0.out; have b9 := cellS86_0 HGz12; have c0 := cellS86_1 HGz12; have c1 := blk_frozen HGz12 1; clear HGz12 hgz12; have p101 : 0 ≤ ((ji9) : Int) := of_decide_eq_true (by assumption); have q101 : (ji9) < (s0_0.length : Int) := of_decide_eq_true (by assumption); obtain ⟨ad101, d5, a6⟩ := Kd.at_int HSz12_0 (ji9) p101 q101
       cases d5
       replace a6 := pw_cell_below HB.out a6; replace p101 := eq_true p101; replace q101 := eq_true q101
       go_wp2
       repeat (go_quiet (fail); try go_wp2)
       go_ret
       exact ⟨by first | rfl | (simp [errW_none, errW_some] <;> rfl) | (simp only [← hji9]; first | rfl | (simp [errW_none, errW_some] <;> rfl)) | (simp [*, errW_none, errW_some] <;> rfl), by repeat (with_reducible first | exact HI0.out | apply IsS86.alloc | apply IsS86.drewN | apply IsS86.drew | apply IsS86.set_1), by repeat (with_reducible first | exact HB.out | apply below_alloc | apply pw_below_drewN | apply below_drew1 | refine below_set ?_ (IsS86.ge HI0.out)), by repeat (with_reducible first | exact HK.out | apply KeepBut.set_ | apply keep_drewN | apply keep_drew | apply keep_alloc)⟩
     ·
      rw [if_neg c10] at H
      exact absurd H (by simp)
    ·
     rw [if_neg c8] at H
     have b6 : decide ((wrap64 ((wrap64 (s0_1 + 1)) - 1)) < (s0_0.length : Int)) = false := decide_eq_false c8; clear c8
     by_cases c13 : (s0_0.length : Int) = 0
     ·
      rw [if_pos c13] at H
      exact absurd H (by simp)
     ·
      rw [if_neg c13] at H
      have e0 := beq_eq_false_iff_ne.mpr c13; have e1 := bne_iff_ne.mpr c13; have e2 : ¬ (s0_0 = []) := fun h_ => c13 (by rw [h_]; rfl); obtain ⟨ji14, hji14⟩ : ∃ j_ : Int, (Int.tmod (wrap64 ((wrap64 (s0_1 + 1)) - 1)) (s0_0.length : Int)) = j_ := ⟨_, rfl⟩
      replace H : (if 0 ≤ (ji14) then (if (ji14) < (s0_0.length : Int) then (if 0 ≤ (Int.tmod (wrap64 ((wrap64 ((wrap64 ((wrap64 (s0_1 + 1)) - 1)) * 7)) + 3)) (s0_0.length : Int)) then (if (Int.tmod (wrap64 ((wrap64 ((wrap64 ((wrap64 (s0_1 + 1)) - 1)) * 7)) + 3)) (s0_0.length : Int)) < (s0_0.length : Int) then (if a1 = 0 then (none) else (some (Int.tmod (Go.bits .xor .i64 (wrap64 ((wrap64 ((wrap64 ((wrap64 ((wrap64 (rd s0_0 (ji14))) * 131)) + (wrap64 ((wrap64 (rd s0_0 (Int.tmod (wrap64 ((wrap64 ((wrap64 ((wrap64 (s0_1 + 1)) - 1)) * 7)) + 3)) (s0_0.length : Int)))) * 1117)))) + (wrap64 ((wrap64 ((wrap64 (s0_1 + 1)) - 1)) * 29)))) + (wrap64 ((wrap64 (Int.tdiv (wrap64 ((wrap64 (s0_1 + 1)) - 1)) (s0_0.length : Int))) * 53)))) (wrap64 (Int.tdiv (wrap64 ((wrap64 ((wrap64 ((wrap64 ((wrap64 (rd s0_0 (ji14))) * 131)) + (wrap64 ((wrap64 (rd s0_0 (Int.tmod (wrap64 ((wrap64 ((wrap64 ((wrap64 (s0_1 + 1)) - 1)) * 7)) + 3)) (s0_0.length : Int)))) * 1117)))) + (wrap64 ((wrap64 ((wrap64 (s0_1 + 1)) - 1)) * 29)))) + (wrap64 ((wrap64 (Int.tdiv (wrap64 ((wrap64 (s0_1 + 1)) - 1)) (s0_0.length : Int))) * 53)))) 64))) a1, (wrap64 (s0_1 + 1))))) else (none)) else (none)) else (none)) else (none)) = some (r1, r2) := by first | (rw [hji14] at H; exact H) | (simp only [hji14] at H ⊢; exact H)
      by_cases c15 : 0 ≤ (ji14)
      ·
       rw [if_pos c15] at H
       replace c15 := decide_eq_true c15
       by_cases c16 : (ji14) < (s0_0.length : Int)
       ·
        rw [if_pos c16] at H
        replace c16 := decide_eq_true c16; obtain ⟨ji17, hji17⟩ : ∃ j_ : Int, (Int.tmod (wrap64 ((wrap64 ((wrap64 ((wrap64 (s0_1 + 1)) - 1)) * 7)) + 3)) (s0_0.length : Int)) = j_ := ⟨_, rfl⟩
        replace H : (if 0 ≤ (ji17) then (if (ji17) < (s0_0.length : Int) then (if a1 = 0 then (none) else (some (Int.tmod (Go.bits .xor .i64 (wrap64 ((wrap64 ((wrap64 ((wrap64 ((wrap64 (rd s0_0 (ji14))) * 131)) + (wrap64 ((wrap64 (rd s0_0 (ji17))) * 1117)))) + (wrap64 ((wrap64 ((wrap64 (s0_1 + 1)) - 1)) * 29)))) + (wrap64 ((wrap64 (Int.tdiv (wrap64 ((wrap64 (s0_1 + 1)) - 1)) (s0_0.length : Int))) * 53)))) (wrap64 (Int.tdiv (wrap64 ((wrap64 ((wrap64 ((wrap64 ((wrap64 (rd s0_0 (ji14))) * 131)) + (wrap64 ((wrap64 (rd s0_0 (ji17))) * 1117)))) + (wrap64 ((wrap64 ((wrap64 (s0_1 + 1)) - 1)) * 29)))) + (wrap64 ((wrap64 (Int.tdiv (wrap64 ((wrap64 (s0_1 + 1)) - 1)) (s0_0.length : Int))) * 53)))) 64))) a1, (wrap64 (s0_1 + 1))))) else (none)) else (none)) = some (r1, r2) := by first | (rw [hji17] at H; exact H) | (simp only [hji17] at H ⊢; exact H)
        by_cases c18 : 0 ≤ (ji17)
        ·
         rw [if_pos c18] at H
         replace c18 := decide_eq_true c18
         by_cases c19 : (ji17) < (s0_0.length : Int)
         ·
          rw [if_pos c19] at H
          replace c19 := decide_eq_true c19
          by_cases c20 : a1 = 0
          ·
           rw [if_pos c20] at H
           exact absurd H (by simp)
          ·
           rw [if_neg c20] at H
           have e3 := beq_eq_false_iff_ne.mpr c20; have e4 := bne_iff_ne.mpr c20
           simp only [Option.some.injEq, Prod.mk.injEq] at H
           obtain ⟨rfl, rfl⟩ := H; obtain ⟨c2, c3, HGz21, hgz21, HSz21_0⟩ := HI0.out; have c6 := cellS86_0 HGz21; have c9 := cellS86_1 HGz21; have d0 := blk_frozen HGz21 1; clear HGz21 hgz21; have p102 : 0 ≤ ((ji14) : Int) := of_decide_eq_true (by assumption); have q102 : (ji14) < (s0_0.length : Int) := of_decide_eq_true (by assumption); obtain ⟨ad102, d6, a7⟩ := Kd.at_int HSz21_0 (ji14) p102 q102
           cases d6
           replace a7 := pw_cell_below HB.out a7; replace p102 := eq_true p102; replace q102 := eq_true q102; have p103 : 0 ≤ ((ji17) : Int) := of_decide_eq_true (by assumption); have q103 : (ji17) < (s0_0.length : Int) := of_decide_eq_true (by assumption); obtain ⟨ad103, d7, a8⟩ := Kd.at_int HSz21_0 (ji17) p103 q103; obtain rfl : ad102 = ad103 := (by injection d7); replace a8 := pw_cell_below HB.out a8; replace p103 := eq_true p103; replace q103 := eq_true q103
           go_wp2
           repeat (go_quiet (fail); try go_wp2)
           go_ret
           exact ⟨by first | rfl | (simp [errW_none, errW_some] <;> rfl) | (simp only [← hji14, ← hji17]; first | rfl | (simp [errW_none, errW_some] <;> rfl)) | (simp [*, errW_none, errW_some] <;> rfl), by repeat (with_reducible first | exact HI0.out | apply IsS86.alloc | apply IsS86.drewN | apply IsS86.drew | apply IsS86.set_1), by repeat (with_reducible first | exact HB.out | apply below_alloc | apply pw_below_drewN | apply below_drew1 | refine below_set ?_ (IsS86.ge HI0.out)), by repeat (with_reducible first | exact HK.out | apply KeepBut.set_ | apply keep_drewN | apply keep_drew | apply keep_alloc)⟩
         ·
          rw [if_neg c19] at H
          exact absurd H (by simp)
        ·
         rw [if_neg c18] at H
         exact absurd H (by simp)
       ·
        rw [if_neg c16] at H
        exact absurd H (by simp)
      ·
       rw [if_neg c15] at H
       exact absurd H (by simp)
end
section
open Go.Proofs.YtoifpgkfpdeglaaW.PrintWords.Aside0 renaming mk → yaa
open Go.Proofs.Ytoifpgkfpdeglaa.X.IsS86 renaming alloc → yab, drewN → yac, set_1 → yad, drew → yae, far → yaf, apart → yaq, below → yay
open Go.Proofs.YtoifpgkfpdeglaaW.PrintWords.Kd renaming R_mono → yag, R_alloc → yah, R_drewN → yai, R_drew → yam, R_keep → yat, R_elder' → yaw, int → yba
open Go.Proofs.YtoifpgkfpdeglaaW.PrintWords.KeepBut renaming set_ → yaj, trans → yav
open Go.Proofs.YtoifpgkfpdeglaaW.PrintWords renaming pw_below_drewN → yak, below_set → yal, keep_drewN → yan, keep_alloc → yao, below_drew1 → yap, below_alloc → yar, keep_drew → yas, keep_far → yau
open Go.Proofs.YtoifpgkfpdeglaaW.PrintLast renaming steps_cons → yax, putSel_upk → yaz
abbrev q43_0 : Array Bool := Array.replicate 26 false
abbrev q43_1 : Array Bool := bl_ 26 1
abbrev q43_2 : Array Bool := bl_ 26 3
abbrev q43_3 : Array Bool := bl_ 26 7
abbrev q43_4 : Array Bool := bl_ 26 39
abbrev q43_5 : Array Bool := bl_ 26 551
abbrev q43_6 : Array Bool := bl_ 26 1575
abbrev q43_7 : Array Bool := bl_ 26 9767
abbrev q43_8 : Array Bool := bl_ 26 140839
abbrev q43_9 : Array Bool := bl_ 26 1189415
def spec_l20Pix.f (k : Nat) (s0_0 : List Int) (s0_1 : Int) : Option (Int × Int × Int × Int × Int) := (spec_l20Rd_pick.f k s0_0 s0_1 256).bind fun bt102 => ((some (([0, 255, bt102.1] : List Int) : List Int)).bind fun y104 => ((spec_l20Rd_pick.f k s0_0 bt102.2 3).bind fun bt107 => (if 0 ≤ bt107.1 then (if bt107.1 < (y104.length : Int) then ((spec_l20Rd_pick.f k s0_0 bt107.2 256).bind fun bt110 => ((some (([rd y104 bt107.1, bt110.1] : List Int) : List Int)).bind fun y112 => ((spec_l20Rd_pick.f k s0_0 bt110.2 2).bind fun bt115 => (if 0 ≤ bt115.1 then (if bt115.1 < (y112.length : Int) then ((spec_l20Rd_pick.f k s0_0 bt115.2 256).bind fun bt118 => ((some (([rd y104 bt107.1, bt118.1] : List Int) : List Int)).bind fun y120 => ((spec_l20Rd_pick.f k s0_0 bt118.2 2).bind fun bt123 => (if 0 ≤ bt123.1 then (if bt123.1 < (y120.length : Int) then ((spec_l20Rd_pick.f k s0_0 bt123.2 256).bind fun bt126 => ((some (([255, 255, 0, bt126.1] : List Int) : List Int)).bind fun y128 => ((spec_l20Rd_pick.f k s0_0 bt126.2 4).bind fun bt131 => (if 0 ≤ bt131.1 then (if bt131.1 < (y128.length : Int) then (some (rd y104 bt107.1, rd y112 bt115.1, rd y120 bt123.1, rd y128 bt131.1, bt131.2)) else (none)) else (none))))) else (none)) else (none))))) else (none)) else (none))))) else (none)) else (none))))
def spec_l20Pix.T2 : Bool × List (List Nat × List Nat) := (true, [([], []), ([], []), ([], []), ([2], [2]), ([1, 3], [1, 3]), ([], []), ([5, 3], [5]), ([4, 6], [4, 6]), ([7], [7]), ([], []), ([], []), ([10, 6], [10]), ([9, 11], [9, 11]), ([], []), ([13, 11], [13]), ([12, 14], [12, 14]), ([15], [15]), ([], []), ([17, 14], [17]), ([18], [18]), ([], []), ([20, 18], [20]), ([19, 21], [19, 21]), ([22], [22]), ([0, 8, 16, 23], [0, 8, 16, 23]), ([24, 21, 0, 1, 2, 3, 4, 5, 6, 7, 8, 9, 10, 11, 12, 13, 14, 15, 16, 17, 18, 19, 20, 21, 22, 23, 24], [24])])
def spec_l20Pix.B2 : List Nat := [0, 0, 0, 4, 14, 0, 44, 126, 254, 0, 0, 1132, 3692, 0, 11372, 32364, 65132, 0, 158828, 420972, 0, 1469548, 4090988, 8285292, 16777215, 33554431]
theorem spec_l20Pix.tab2 : rtab .any (opsOf Try.f43 2) = spec_l20Pix.T2 := by kernel_rfl
theorem spec_l20Pix.bits2 : waitsOk spec_l20Pix.T2.2 spec_l20Pix.B2 = true := by kernel_rfl
set_option maxHeartbeats 8000000 in
set_option maxRecDepth 100000 in
theorem spec_l20Pix.calls (k : Nat) (g : Nat) (s0_0 : List Int) (s0_1 : Int) (r1 : Int) (r2 : Int) (r3 : Int) (r4 : Int) (r5 : Int) (w0 w : World) (hI : IsS86 w0 w g s0_0 s0_1) (hB : Below w0.heap.size w0 w) (h : spec_l20Pix.f k s0_0 s0_1 = some (r1, r2, r3, r4, r5)) :
  Calls Try.prog 43 #[.pointer (some ⟨g, 0, none⟩)] w fun e w' => e = .returned (.agg #[.int .i64 r1, .int .i64 r2, .int .i64 r3, .int .i64 r4]) ∧ IsS86 w0 w' g s0_0 r5 ∧ Below w0.heap.size w0 w' ∧ KeepBut w w' g none := by
 have hu36 := Try.underlying36; have HI0 := yaa hI; have HK := yaa (KeepBut.refl w g none); have HL := yaa hB.size; clear hI; have HW0 := yaa hB.size; have HB := yaa hB; clear hB; have H : ((spec_l20Rd_pick.f k s0_0 s0_1 256).bind fun h9 => ((some (([0, 255, h9.1] : List Int) : List Int)).bind fun y104 => ((spec_l20Rd_pick.f k s0_0 h9.2 3).bind fun g4 => (if 0 ≤ g4.1 then (if g4.1 < (y104.length : Int) then ((spec_l20Rd_pick.f k s0_0 g4.2 256).bind fun i0 => ((some (([rd y104 g4.1, i0.1] : List Int) : List Int)).bind fun y112 => ((spec_l20Rd_pick.f k s0_0 i0.2 2).bind fun h0 => (if 0 ≤ h0.1 then (if h0.1 < (y112.length : Int) then ((spec_l20Rd_pick.f k s0_0 h0.2 256).bind fun i1 => ((some (([rd y104 g4.1, i1.1] : List Int) : List Int)).bind fun y120 => ((spec_l20Rd_pick.f k s0_0 i1.2 2).bind fun h1 => (if 0 ≤ h1.1 then (if h1.1 < (y120.length : Int) then ((spec_l20Rd_pick.f k s0_0 h1.2 256).bind fun i2 => ((some (([255, 255, 0, i2.1] : List Int) : List Int)).bind fun y128 => ((spec_l20Rd_pick.f k s0_0 i2.2 4).bind fun h2 => (if 0 ≤ h2.1 then (if h2.1 < (y128.length : Int) then (some (rd y104 g4.1, rd y112 h0.1, rd y120 h1.1, rd y128 h2.1, h2.2)) else (none)) else (none))))) else (none)) else (none))))) else (none)) else (none))))) else (none)) else (none))))) = some (r1, r2, r3, r4, r5) := h; clear h; obtain ⟨⟨h3, i3⟩, A2, H⟩ := bindA H; (try dsimp only at H); obtain ⟨y104, hy104, H⟩ := bindY H; (try dsimp only at H); have Ny104 := yaa hy104; clear hy104; obtain ⟨⟨e1, h8⟩, A3, H⟩ := bindA H; (try dsimp only at H)
 by_cases c4 : 0 ≤ e1
 ·
  rw [if_pos c4] at H
  replace c4 := decide_eq_true c4
  by_cases c5 : e1 < (y104.length : Int)
  ·
   rw [if_pos c5] at H
   replace c5 := decide_eq_true c5; obtain ⟨⟨g5, g8⟩, A6, H⟩ := bindA H; (try dsimp only at H); obtain ⟨y112, hy112, H⟩ := bindY H; (try dsimp only at H); have Ny112 := yaa hy112; clear hy112; obtain ⟨⟨e4, g9⟩, A7, H⟩ := bindA H; (try dsimp only at H)
   by_cases c8 : 0 ≤ e4
   ·
    rw [if_pos c8] at H
    replace c8 := decide_eq_true c8
    by_cases c9 : e4 < (y112.length : Int)
    ·
     rw [if_pos c9] at H
     replace c9 := decide_eq_true c9; obtain ⟨⟨g6, f9⟩, A10, H⟩ := bindA H; (try dsimp only at H); obtain ⟨y120, hy120, H⟩ := bindY H; (try dsimp only at H); have Ny120 := yaa hy120; clear hy120; obtain ⟨⟨e5, g0⟩, A11, H⟩ := bindA H; (try dsimp only at H)
     by_cases c12 : 0 ≤ e5
     ·
      rw [if_pos c12] at H
      replace c12 := decide_eq_true c12
      by_cases c13 : e5 < (y120.length : Int)
      ·
       rw [if_pos c13] at H
       replace c13 := decide_eq_true c13; obtain ⟨⟨g7, f6⟩, A14, H⟩ := bindA H; (try dsimp only at H); obtain ⟨y128, hy128, H⟩ := bindY H; (try dsimp only at H); have Ny128 := yaa hy128; clear hy128; obtain ⟨⟨e6, h4⟩, A15, H⟩ := bindA H; (try dsimp only at H)
       by_cases c16 : 0 ≤ e6
       ·
        rw [if_pos c16] at H
        replace c16 := decide_eq_true c16
        by_cases c17 : e6 < (y128.length : Int)
        ·
         rw [if_pos c17] at H
         replace c17 := decide_eq_true c17
         simp only [Option.some.injEq, Prod.mk.injEq] at H
         obtain ⟨rfl, rfl, rfl, rfl, rfl⟩ := H
         go_enter Try.func43, Try.ntmps43
         try go_wp2_with (first | ((with_reducible refine gd_ 2 rfl ?_); refine bx_ 2 rfl #[.int .i64 0, .int .i64 0, .int .i64 0, .int .i64 0] 36 ?_; intro d2 hg w18 hbox hb; replace HB := yaa (below_step (by repeat (with_reducible first | exact HB.out | apply yar | apply yak | apply yap | refine yal ?_ (IsS86.ge HI0.out))) hb); have a7 := yaa (hbox); have d4 := yaa ((by rw [hg]; exact (keep_size (w := w) (g := g) (row := none) (by repeat (with_reducible first | exact HK.out | apply yaj | apply yan | apply yas | apply yao))) : w.heap.size ≤ d2)); have k2 := yaa ((Nat.le_trans HW0.out (by rw [hg]; exact (keep_size (w := w) (g := g) (row := none) (by repeat (with_reducible first | exact HK.out | apply yaj | apply yan | apply yas | apply yao))) : w.heap.size ≤ d2) : w0.heap.size ≤ d2)); replace HK := yaa (yav (by repeat (with_reducible first | exact HK.out | apply yaj | apply yan | apply yas | apply yao)) (KeepBut.of_below hb g none) (.inl rfl)); have a4 := yaa ((by rw [hg]; exact Nat.ne_of_lt (IsS86.lt (show IsS86 w0 _ g s0_0 s0_1 from by repeat (with_reducible first | exact HI0.out | apply yab | apply yac | apply yae | apply yad))) : g ≠ d2)); replace HI0 := yaa (yay (by repeat (with_reducible first | exact HI0.out | apply yab | apply yac | apply yae | apply yad)) hb); have e8 := yaa a4.out.symm; clear hb hbox hg) | ((with_reducible refine gc_ 44 rfl ?_); refine gl_ (some 5) rfl Try.func44 #[.pointer (some ⟨g, 0, none⟩), .int .i64 256] ?_; (with_reducible refine (spec_l20Rd_pick.calls k g s0_0 s0_1 256 h3 i3 w0 _ ?side1 ?side2 A2.out).mono ?_); (case side1 => repeat (with_reducible first | exact HI0.out | apply yab | apply yac | apply yae | apply yad | refine yaf ?_ a4.out _)); (case side2 => repeat (with_reducible first | exact HB.out | apply yar | apply yak | apply yap | refine yal ?_ (Aside0.out ‹_›) | refine yal ?_ (IsS86.ge HI0.out))); rintro e w19 ⟨rfl, hi, hb, hk⟩; refine ⟨_, rfl, ?_⟩; replace a7 := yaa (KeepBut.blk hk (upB a7.out) e8.out (by simp)); replace HK := yaa (yav (by repeat (with_reducible first | exact HK.out | apply yaj | apply yan | apply yas | apply yao | refine yau ?_ d4.out _)) hk (.inl rfl)); replace HB := yaa (hb); replace HI0 := yaa (hi); (try clear hb hk hi)) | ((with_reducible refine gd_ 6 rfl ?_); refine Kd.R_lit (yba .i64) _ 3 ?hg (N := 6) ?hd (xs := ([0, 255, h3] : List Int)) (inner := [.int .i64 0, .int .i64 255, .int .i64 h3]) (ok := fun _ => True) (okp := fun _ => True) ?hr ?hp (fun _ hk => hk) trivial (Below.refl _ _) (Nat.le_refl _) (by simp) ?_; (case hd => rfl); (case hg => rfl); (case hr => first | (go_simp; done) | (go_simp; rfl)); (case hp => exact (Reps.one (show Kd.M (yba .i64) _ _ _ 0 [.int .i64 0] from rfl) (Reps.one (show Kd.M (yba .i64) _ _ _ 255 [.int .i64 255] from rfl) (Reps.one (show Kd.M (yba .i64) _ _ _ h3 [.int .i64 h3] from rfl) (Reps.none _ _))))); intro k7 w20 h5 hb hg_ hnew_; clear hg_ hnew_; (first | rw [← Ny104.out] at h5 | (simp only [Int.reduceToNat] at h5; rw [← Ny104.out] at h5)); have b5 := yaa (Kd.R_lower h5 (keep_size (w := w) (g := g) (row := none) (by repeat (with_reducible first | exact HK.out | apply yaj | apply yan | apply yas | apply yao | refine yau ?_ d4.out _)))); replace a7 := yaa (blk_below (upB a7.out) hb); replace HK := yaa (yav (by repeat (with_reducible first | exact HK.out | apply yaj | apply yan | apply yas | apply yao | refine yau ?_ d4.out _)) (KeepBut.of_below hb g none) (.inl rfl)); replace HB := yaa (below_step (by repeat (with_reducible first | exact HB.out | apply yar | apply yak | apply yap | refine yal ?_ (Aside0.out ‹_›) | refine yal ?_ (IsS86.ge HI0.out))) hb); replace HI0 := yaa (yay (by repeat (with_reducible first | exact HI0.out | apply yab | apply yac | apply yae | apply yad | refine yaf ?_ a4.out _)) hb); clear hb h5) | ((with_reducible refine gc_ 44 rfl ?_); refine gl_ (some 8) rfl Try.func44 #[.pointer (some ⟨g, 0, none⟩), .int .i64 3] ?_; (with_reducible refine (spec_l20Rd_pick.calls k g s0_0 i3 3 e1 h8 w0 _ ?side1 ?side2 A3.out).mono ?_); (case side1 => repeat (with_reducible first | exact HI0.out | apply yab | apply yac | apply yae | apply yad | refine yaf ?_ a4.out _)); (case side2 => repeat (with_reducible first | exact HB.out | apply yar | apply yak | apply yap | refine yal ?_ (Aside0.out ‹_›) | refine yal ?_ (IsS86.ge HI0.out))); rintro e w22 ⟨rfl, hi, hb, hk⟩; refine ⟨_, rfl, ?_⟩; replace a7 := yaa (KeepBut.blk hk (upB a7.out) e8.out (by simp)); replace b5 := yaa (yag (yat (yaq (show IsS86 w0 _ g s0_0 i3 from by repeat (with_reducible first | exact HI0.out | apply yab | apply yac | apply yae | apply yad | refine yaf ?_ a4.out _)) (upR b5.out) (by decide)) hk (fun _ h => h.2)) (fun _ h => h.1)); replace HK := yaa (yav (by repeat (with_reducible first | exact HK.out | apply yaj | apply yan | apply yas | apply yao | refine yau ?_ d4.out _)) hk (.inl rfl)); replace HB := yaa (hb); replace HI0 := yaa (hi); (try clear hb hk hi); obtain ⟨k8, f1, i5⟩ := Kd.R_slice b5.out; subst i5; have p109 : 0 ≤ (e1 : Int) := of_decide_eq_true (by assumption); have q109 : e1 < (y104.length : Int) := of_decide_eq_true (by assumption); obtain ⟨ad109, i6, i4⟩ := Kd.at_int (Kd.R_reads' b5.out).2.2 e1 p109 q109; cases i6; replace p109 := eq_true p109; replace q109 := eq_true q109))
         have pi117 : (0 ≤ (e4 : Int)) = True := eq_true (of_decide_eq_true (by assumption)); have qi117 : (e4 < (y112.length : Int)) = True := eq_true (of_decide_eq_true (by assumption)); have pi125 : (0 ≤ (e5 : Int)) = True := eq_true (of_decide_eq_true (by assumption)); have qi125 : (e5 < (y120.length : Int)) = True := eq_true (of_decide_eq_true (by assumption)); have pi133 : (0 ≤ (e6 : Int)) = True := eq_true (of_decide_eq_true (by assumption)); have qi133 : (e6 < (y128.length : Int)) = True := eq_true (of_decide_eq_true (by assumption)); replace b5 := yaa (yam b5.out); replace a7 := yaa (blk_drew a7.out); replace HI0 := yaa (yae HI0.out); replace HK := yaa (yas HK.out); replace HB := yaa (yap HB.out)
         refine start_ (n := 26) (S := fun w' => True) (ds := []) q43_0 (by kernel_rfl) rfl rfl trivial (fun hHeld => ?_); refine with_tabW spec_l20Pix.tab2 spec_l20Pix.bits2 (fun HT_ HW_ => ?_)
         generalize w22.drew = w24 at b5 a7 HI0 HK HB hHeld ⊢
         refine pz_ 0 11 q43_1 HT_ (by kernel_rfl) ?_
         refine pz_ 1 12 q43_2 HT_ (by kernel_rfl) ?_
         refine pz_ 2 13 q43_3 HT_ (by kernel_rfl) ?_
         refine pz_ 5 16 q43_4 HT_ (by kernel_rfl) ?_
         refine pz_ 9 20 q43_5 HT_ (by kernel_rfl) ?_
         refine pz_ 10 21 q43_6 HT_ (by kernel_rfl) ?_
         refine pz_ 13 24 q43_7 HT_ (by kernel_rfl) ?_
         refine pz_ 17 28 q43_8 HT_ (by kernel_rfl) ?_
         refine pz_ 20 31 q43_9 HT_ (by kernel_rfl) ?_
         refine inv_at [3, 4, 6, 7, 8, 11, 12, 14, 15, 16, 18, 19, 21, 22, 23, 24, 25] (fun a0_ b a w' => ∃ (d0 : Value) (a8 : Addr) (d1 : Value) (a9 : Addr) (d3 : Value) (b0 : Addr) (m7_ : Value) (d5 : Value) (d6 : Value), a = putSel a0_ b [(3, 14, .int .i64 g5), (4, 15, d0), (6, 17, .int .i64 e4), (7, 18, m7_), (8, 19, .int .i64 (rd y112 e4)), (11, 22, .int .i64 g6), (12, 23, d1), (14, 25, .int .i64 e5), (15, 26, d5), (16, 27, .int .i64 (rd y120 e5)), (18, 29, .int .i64 g7), (19, 30, d3), (21, 32, .int .i64 e6), (22, 33, d6), (23, 34, .int .i64 (rd y128 e6)), (24, 35, .agg #[.int .i64 (rd y104 e1), .int .i64 (rd y112 e4), .int .i64 (rd y120 e5), .int .i64 (rd y128 e6)])] ∧ (Kd.R (yba .i64) 3 w' w.heap.size (fun _ => True) (.slice (some ad109) y104.length f1) y104) ∧ (b 25 = false → w'.heap[d2]? = some (.cells #[.int .i64 0, .int .i64 0, .int .i64 0, .int .i64 0] 36 (0, 0))) ∧ (b 3 = false → IsS86 w0 w' g s0_0 h8) ∧ (KeepBut w w' g none) ∧ (Below w0.heap.size w0 w') ∧ (b 3 = true → b 6 = false → IsS86 w0 w' g s0_0 g8) ∧ (b 4 = true → Kd.R (yba .i64) 3 w' w.heap.size (fun k_ => some k_ ≠ (.slice (some ad109) y104.length f1 : Value).ownBlock) d0 y112) ∧ (b 4 = true → ∃ c_, (d0 : Value) = .slice (some a8) y112.length c_) ∧ (b 6 = true → b 11 = false → IsS86 w0 w' g s0_0 g9) ∧ (b 11 = true → b 14 = false → IsS86 w0 w' g s0_0 f9) ∧ (b 12 = true → Kd.R (yba .i64) 3 w' w.heap.size (fun k_ => some k_ ≠ (.slice (some ad109) y104.length f1 : Value).ownBlock) d1 y120) ∧ (b 12 = true → ∃ c_, (d1 : Value) = .slice (some a9) y120.length c_) ∧ (b 14 = true → b 18 = false → IsS86 w0 w' g s0_0 g0) ∧ (b 18 = true → b 21 = false → IsS86 w0 w' g s0_0 f6) ∧ (b 19 = true → Kd.R (yba .i64) 3 w' w.heap.size (fun k_ => some k_ ≠ (.slice (some ad109) y104.length f1 : Value).ownBlock) d3 y128) ∧ (b 19 = true → ∃ c_, (d3 : Value) = .slice (some b0) y128.length c_) ∧ (b 21 = true → IsS86 w0 w' g s0_0 h4) ∧ (b 25 = true → w'.heap[d2]? = some (.cells #[.int .i64 (rd y104 e1), .int .i64 (rd y112 e4), .int .i64 (rd y120 e5), .int .i64 (rd y128 e6)] 36 (0, 0))) ∧ (b 7 = true → (m7_ : Value) = .pointer (some (a8.add (e4).toNat))) ∧ (b 15 = true → (d5 : Value) = .pointer (some (a9.add (e5).toNat))) ∧ (b 22 = true → (d6 : Value) = .pointer (some (b0.add (e6).toNat)))) HT_.out HW_.out (by kernel_rfl) (by kernel_rfl) ?_ ?_ ?_
         ·
          exact ⟨.bool false, ⟨0, 0, none⟩, .bool false, ⟨0, 0, none⟩, .bool false, ⟨0, 0, none⟩, .bool false, .bool false, .bool false, by simp only [putSel, Bool.false_eq_true, if_false], b5.out, fun _ => a7.out, fun _ => HI0.out, HK.out, HB.out, fun h_ => absurd h_ (by decide), fun h_ => absurd h_ (by decide), fun h_ => absurd h_ (by decide), fun h_ => absurd h_ (by decide), fun h_ => absurd h_ (by decide), fun h_ => absurd h_ (by decide), fun h_ => absurd h_ (by decide), fun h_ => absurd h_ (by decide), fun h_ => absurd h_ (by decide), fun h_ => absurd h_ (by decide), fun h_ => absurd h_ (by decide), fun h_ => absurd h_ (by decide), fun h_ => absurd h_ (by decide), fun h_ => absurd h_ (by decide), fun h_ => absurd h_ (by decide), fun h_ => absurd h_ (by decide)⟩
         ·
          skip
          clear a7 HB HI0 HK b5
          refine yax ?_ ?_
          ·
           rintro b a w' ⟨d0, a8, d1, a9, d3, b0, m7_, d5, d6, ha, b2, b3, e3, Q_HK, Q_HB, c2, b1, a2, c1, b9, b6, a3, b7, b4, b8, a5, a6, c0, c7, c3, c6⟩ hb_ hon hoff
           refine ⟨_, rfl, fun K hK => ?_⟩; have e13 : a.tmps[13]? = some (.pointer (some ⟨g, 0, none⟩)) := (by rw [ha]; exact (putSel_off rfl).trans rfl); replace ha := yaa ha; have b5 := yaa b2; have a7 := yaa (b3 (hoff 25 (by kernel_rfl))); have HI0 := yaa (e3 hb_); have HK := yaa Q_HK; have HB := yaa Q_HB
           refine goes_ Try.func44 (by kernel_rfl) rfl #[.pointer (some ⟨g, 0, none⟩), .int .i64 256] (by rfl) rfl rfl (by first | (simp only [List.map_toArray, List.map_cons, List.map_nil, Act.eval, Array.getD_eq_getD_getElem?, Option.getD_some, e13]; done) | (simp only [List.map_toArray, List.map_cons, List.map_nil, Act.eval, Array.getD_eq_getD_getElem?, Option.getD_some, e13]; rfl)) ?_
           with_reducible refine (spec_l20Rd_pick.calls k g s0_0 h8 256 g5 g8 w0 _ ?side1 ?side2 A6.out).mono ?_
           (case side1 => repeat (with_reducible first | exact HI0.out | apply yab | apply yac | apply yae | apply yad | refine yaf ?_ a4.out _))
           (case side2 => repeat (with_reducible first | exact HB.out | apply yar | apply yak | apply yap | refine yal ?_ (Aside0.out ‹_›) | refine yal ?_ (IsS86.ge HI0.out)))
           rintro e w25 ⟨rfl, hi, hb, hk⟩; refine ⟨_, rfl, ?_⟩; have n0_ := yaa (KeepBut.blk hk (upB a7.out) e8.out (by simp))
           have n1_ := yaa (yag (yat (yaq (show IsS86 w0 _ g s0_0 h8 from by repeat (with_reducible first | exact HI0.out | apply yab | apply yac | apply yae | apply yad | refine yaf ?_ a4.out _)) (upR b5.out) (by decide)) hk (fun _ h => h.2)) (fun _ h => h.1))
           have n2_ := yaa (yav (by repeat (with_reducible first | exact HK.out | apply yaj | apply yan | apply yas | apply yao | refine yau ?_ d4.out _)) hk (.inl rfl))
           have n3_ := yaa (hb); have n4_ := yaa (hi); clear a7; clear b5; clear HK; clear HB; clear HI0; have a7 := n0_; have b5 := n1_; have HK := n2_; have HB := n3_; have HI0 := n4_; clear n0_ n1_ n2_ n3_ n4_; (try clear hb); (try clear hb2); (try clear hk); (try clear hi)
           refine hK.out _ _ ⟨d0, a8, d1, a9, d3, b0, m7_, d5, d6, (by rw [ha.out]; exact yaz 0 hb_ rfl rfl rfl), (upR b5.out), fun _ => (upB a7.out), fun h0_ => absurd ((up_self b 3).symm.trans h0_) (by decide), (by repeat (with_reducible first | exact HK.out | apply yaj | apply yan | apply yas | apply yao | refine yau ?_ d4.out _)), (by repeat (with_reducible first | exact HB.out | apply yar | apply yak | apply yap | refine yal ?_ (Aside0.out ‹_›) | refine yal ?_ (IsS86.ge HI0.out))), fun _ _ => (by repeat (with_reducible first | exact HI0.out | apply yab | apply yac | apply yae | apply yad | refine yaf ?_ a4.out _)), offA_ (hoff 4 (by kernel_rfl)), offA_ (hoff 4 (by kernel_rfl)), fun h0_ _ => absurd ((hoff 6 (by kernel_rfl)).symm.trans h0_) (by decide), fun h0_ _ => absurd ((hoff 11 (by kernel_rfl)).symm.trans h0_) (by decide), offA_ (hoff 12 (by kernel_rfl)), offA_ (hoff 12 (by kernel_rfl)), fun h0_ _ => absurd ((hoff 14 (by kernel_rfl)).symm.trans h0_) (by decide), fun h0_ _ => absurd ((hoff 18 (by kernel_rfl)).symm.trans h0_) (by decide), offA_ (hoff 19 (by kernel_rfl)), offA_ (hoff 19 (by kernel_rfl)), offA_ (hoff 21 (by kernel_rfl)), offA_ (hoff 25 (by kernel_rfl)), offA_ (hoff 7 (by kernel_rfl)), offA_ (hoff 15 (by kernel_rfl)), offA_ (hoff 22 (by kernel_rfl))⟩
          refine yax ?_ ?_
          ·
           rintro b a w' ⟨d0, a8, d1, a9, d3, b0, m7_, d5, d6, ha, b2, b3, e3, Q_HK, Q_HB, c2, b1, a2, c1, b9, b6, a3, b7, b4, b8, a5, a6, c0, c7, c3, c6⟩ hb_ hon hoff
           refine ⟨_, rfl, fun K hK => ?_⟩; have e12 : a.tmps[12]? = some (.int .i64 (rd y104 e1)) := (by rw [ha]; exact (putSel_off rfl).trans rfl); have e14 : a.tmps[14]? = some (.int .i64 g5) := (by rw [ha]; exact putSel_on (e := (3, 14, .int .i64 g5)) 0 rfl rfl (hon 3 (by kernel_rfl)) rfl); replace ha := yaa ha; have b5 := yaa b2; have a7 := yaa (b3 (hoff 25 (by kernel_rfl))); have HK := yaa Q_HK; have HB := yaa Q_HB
           refine Kd.R_lit_step (yba .i64) _ 3 ?hg (N := 15) ?hd (xs := ([rd y104 e1, g5] : List Int)) (inner := [.int .i64 (rd y104 e1), .int .i64 g5]) (ok := fun _ => True) (okp := fun _ => True) ?hr ?hp (fun _ hk => hk) trivial (Below.refl _ _) (Nat.le_refl _) (by simp) ?_; (case hd => rfl); (case hg => rfl); (case hr => first | (go_simp; done) | (go_simp; rfl)); (case hp => exact (Reps.one (show Kd.M (yba .i64) _ _ _ (rd y104 e1) [.int .i64 (rd y104 e1)] from rfl) (Reps.one (show Kd.M (yba .i64) _ _ _ g5 [.int .i64 g5] from rfl) (Reps.none _ _))))
           intro d0 w27 g1 hb hg_ hnew_; clear hg_ hnew_
           (first | rw [← Ny112.out] at g1 | (simp only [Int.reduceToNat] at g1; rw [← Ny112.out] at g1))
           have n0_ := yaa (yaw (upR b5.out) (Kd.R_base g1) hb)
           have n1_ := yaa (Kd.R_lower (Kd.R_new' g1 (Kd.R_lt (upR b5.out))) (keep_size (w := w) (g := g) (row := none) (by repeat (with_reducible first | exact HK.out | apply yaj | apply yan | apply yas | apply yao | refine yau ?_ d4.out _))))
           have n3_ := yaa (blk_below (upB a7.out) hb)
           have n4_ := yaa (yav (by repeat (with_reducible first | exact HK.out | apply yaj | apply yan | apply yas | apply yao | refine yau ?_ d4.out _)) (KeepBut.of_below hb g none) (.inl rfl))
           have n5_ := yaa (below_step (by repeat (with_reducible first | exact HB.out | apply yar | apply yak | apply yap | refine yal ?_ (Aside0.out ‹_›))) hb)
           have h6 := fun (h0_ : b 3 = true) (h1_ : b 6 = false) => (show IsS86 w0 w27 g s0_0 g8 from by first | exact (yay (by repeat (first | (with_reducible first | exact (c2 h0_ h1_) | apply yab | apply yac | apply yae | apply yad | refine yaf ?_ a4.out _) | exact (c2 h0_ h1_))) hb))
           have h7 := fun (h0_ : b 6 = true) (h1_ : b 11 = false) => (show IsS86 w0 w27 g s0_0 g9 from by first | exact (yay (by repeat (first | (with_reducible first | exact (c1 h0_ h1_) | apply yab | apply yac | apply yae | apply yad | refine yaf ?_ a4.out _) | exact (c1 h0_ h1_))) hb))
           have f7 := fun (h0_ : b 11 = true) (h1_ : b 14 = false) => (show IsS86 w0 w27 g s0_0 f9 from by first | exact (yay (by repeat (first | (with_reducible first | exact (b9 h0_ h1_) | apply yab | apply yac | apply yae | apply yad | refine yaf ?_ a4.out _) | exact (b9 h0_ h1_))) hb))
           have e7 := fun (h0_ : b 12 = true) => (show Kd.R (yba .i64) 3 w27 w.heap.size (fun k_ => some k_ ≠ (.slice (some ad109) y104.length f1 : Value).ownBlock) d1 y120 from by first | exact (yaw (by (with_reducible repeat (first | apply yah | apply yai | apply yam)); exact (b6 h0_)) (Kd.R_base g1) hb) | exact yag (yaw (by (with_reducible repeat (first | apply yah | apply yai | apply yam)); exact (b6 h0_)) (Kd.R_base g1) hb) (fun _ h_ => by first | trivial | exact h_ | exact h_.1))
           have f8 := fun (h0_ : b 14 = true) (h1_ : b 18 = false) => (show IsS86 w0 w27 g s0_0 g0 from by first | exact (yay (by repeat (first | (with_reducible first | exact (b7 h0_ h1_) | apply yab | apply yac | apply yae | apply yad | refine yaf ?_ a4.out _) | exact (b7 h0_ h1_))) hb))
           have e9 := fun (h0_ : b 18 = true) (h1_ : b 21 = false) => (show IsS86 w0 w27 g s0_0 f6 from by first | exact (yay (by repeat (first | (with_reducible first | exact (b4 h0_ h1_) | apply yab | apply yac | apply yae | apply yad | refine yaf ?_ a4.out _) | exact (b4 h0_ h1_))) hb))
           have f5 := fun (h0_ : b 19 = true) => (show Kd.R (yba .i64) 3 w27 w.heap.size (fun k_ => some k_ ≠ (.slice (some ad109) y104.length f1 : Value).ownBlock) d3 y128 from by first | exact (yaw (by (with_reducible repeat (first | apply yah | apply yai | apply yam)); exact (b8 h0_)) (Kd.R_base g1) hb) | exact yag (yaw (by (with_reducible repeat (first | apply yah | apply yai | apply yam)); exact (b8 h0_)) (Kd.R_base g1) hb) (fun _ h_ => by first | trivial | exact h_ | exact h_.1))
           have f0 := fun (h0_ : b 21 = true) => (show IsS86 w0 w27 g s0_0 h4 from by first | exact (yay (by repeat (first | (with_reducible first | exact (a6 h0_) | apply yab | apply yac | apply yae | apply yad | refine yaf ?_ a4.out _) | exact (a6 h0_))) hb))
           clear b5; clear a7; clear HK; clear HB; have b5 := n0_; have f2 := n1_; have a7 := n3_; have HK := n4_; have HB := n5_; clear n0_ n1_ n3_ n4_ n5_; clear hb g1; obtain ⟨k9, i7, i8⟩ := Kd.R_slice f2.out; subst i8; obtain ⟨ado29, fo29, _⟩ := Kd.at_int (Kd.R_reads' f2.out).2.2 0 (by decide) (by rw [Ny112.out]; simp)
           cases fo29
           refine hK.out _ _ ⟨.slice (some ado29) y112.length i7, ado29, d1, a9, d3, b0, m7_, d5, d6, (by rw [ha.out]; exact yaz 1 hb_ rfl rfl rfl), (by (with_reducible repeat (first | apply yah | apply yai | apply yam)); exact yag b5.out (fun _ hk => by first | exact hk.2 | exact True.intro)), fun _ => (upB a7.out), offA_ (hon 3 (by kernel_rfl)), (by repeat (with_reducible first | exact HK.out | apply yaj | apply yan | apply yas | apply yao | refine yau ?_ d4.out _)), (by repeat (with_reducible first | exact HB.out | apply yar | apply yak | apply yap | refine yal ?_ (Aside0.out ‹_›))), h6, fun _ => (by (with_reducible repeat (first | apply yah | apply yai | apply yam)); exact yag f2.out (fun _ hk => by first | exact hk.2 | exact True.intro)), fun _ => ⟨_, rfl⟩, h7, f7, e7, a3, f8, e9, f5, a5, f0, offA_ (hoff 25 (by kernel_rfl)), offA_ (hoff 7 (by kernel_rfl)), c3, c6⟩
          refine yax ?_ ?_
          ·
           rintro b a w' ⟨d0, a8, d1, a9, d3, b0, m7_, d5, d6, ha, b2, b3, e3, Q_HK, Q_HB, c2, b1, a2, c1, b9, b6, a3, b7, b4, b8, a5, a6, c0, c7, c3, c6⟩ hb_ hon hoff
           refine ⟨_, rfl, fun K hK => ?_⟩; have e16 : a.tmps[16]? = some (.pointer (some ⟨g, 0, none⟩)) := (by rw [ha]; exact (putSel_off rfl).trans rfl); replace ha := yaa ha; have b5 := yaa b2; have a7 := yaa (b3 (hoff 25 (by kernel_rfl))); have HK := yaa Q_HK; have HB := yaa Q_HB; have HI0 := yaa (c2 (hon 3 (by kernel_rfl)) hb_)
           refine goes_ Try.func44 (by kernel_rfl) rfl #[.pointer (some ⟨g, 0, none⟩), .int .i64 2] (by rfl) rfl rfl (by first | (simp only [List.map_toArray, List.map_cons, List.map_nil, Act.eval, Array.getD_eq_getD_getElem?, Option.getD_some, e16]; done) | (simp only [List.map_toArray, List.map_cons, List.map_nil, Act.eval, Array.getD_eq_getD_getElem?, Option.getD_some, e16]; rfl)) ?_
           with_reducible refine (spec_l20Rd_pick.calls k g s0_0 g8 2 e4 g9 w0 _ ?side1 ?side2 A7.out).mono ?_
           (case side1 => repeat (with_reducible first | exact HI0.out | apply yab | apply yac | apply yae | apply yad | refine yaf ?_ a4.out _))
           (case side2 => repeat (with_reducible first | exact HB.out | apply yar | apply yak | apply yap | refine yal ?_ (Aside0.out ‹_›) | refine yal ?_ (IsS86.ge HI0.out)))
           rintro e w27 ⟨rfl, hi, hb, hk⟩; refine ⟨_, rfl, ?_⟩; have n0_ := yaa (KeepBut.blk hk (upB a7.out) e8.out (by simp))
           have n1_ := yaa (yag (yat (yaq (show IsS86 w0 _ g s0_0 g8 from by repeat (with_reducible first | exact HI0.out | apply yab | apply yac | apply yae | apply yad | refine yaf ?_ a4.out _)) (upR b5.out) (by decide)) hk (fun _ h => h.2)) (fun _ h => h.1))
           have n2_ := yaa (yav (by repeat (with_reducible first | exact HK.out | apply yaj | apply yan | apply yas | apply yao | refine yau ?_ d4.out _)) hk (.inl rfl))
           have n3_ := yaa (hb); have n4_ := yaa (hi)
           have d7 := fun (h0_ : b 4 = true) => (show Kd.R (yba .i64) 3 w27 w.heap.size (fun k_ => some k_ ≠ (.slice (some ad109) y104.length f1 : Value).ownBlock) d0 y112 from by first | exact (yag (yat (yaq (show IsS86 w0 _ g s0_0 g8 from by repeat (with_reducible first | exact HI0.out | apply yab | apply yac | apply yae | apply yad | refine yaf ?_ a4.out _)) (by (with_reducible repeat (first | apply yah | apply yai | apply yam)); exact (b1 h0_)) (by decide)) hk (fun _ h => h.2)) (fun _ h => h.1)) | exact yag (yag (yat (yaq (show IsS86 w0 _ g s0_0 g8 from by repeat (with_reducible first | exact HI0.out | apply yab | apply yac | apply yae | apply yad | refine yaf ?_ a4.out _)) (by (with_reducible repeat (first | apply yah | apply yai | apply yam)); exact (b1 h0_)) (by decide)) hk (fun _ h => h.2)) (fun _ h => h.1)) (fun _ h_ => by first | trivial | exact h_ | exact h_.1))
           clear a7; clear b5; clear HK; clear HB; clear HI0; have a7 := n0_; have b5 := n1_; have HK := n2_; have HB := n3_; have HI0 := n4_; clear n0_ n1_ n2_ n3_ n4_; (try clear hb); (try clear hb2); (try clear hk); (try clear hi)
           refine hK.out _ _ ⟨d0, a8, d1, a9, d3, b0, m7_, d5, d6, (by rw [ha.out]; exact yaz 2 hb_ rfl rfl rfl), (upR b5.out), fun _ => (upB a7.out), offA_ (hon 3 (by kernel_rfl)), (by repeat (with_reducible first | exact HK.out | apply yaj | apply yan | apply yas | apply yao | refine yau ?_ d4.out _)), (by repeat (with_reducible first | exact HB.out | apply yar | apply yak | apply yap | refine yal ?_ (Aside0.out ‹_›) | refine yal ?_ (IsS86.ge HI0.out))), fun _ h1_ => absurd ((up_self b 6).symm.trans h1_) (by decide), d7, a2, fun _ _ => (by repeat (with_reducible first | exact HI0.out | apply yab | apply yac | apply yae | apply yad | refine yaf ?_ a4.out _)), fun h0_ _ => absurd ((hoff 11 (by kernel_rfl)).symm.trans h0_) (by decide), offA_ (hoff 12 (by kernel_rfl)), offA_ (hoff 12 (by kernel_rfl)), fun h0_ _ => absurd ((hoff 14 (by kernel_rfl)).symm.trans h0_) (by decide), fun h0_ _ => absurd ((hoff 18 (by kernel_rfl)).symm.trans h0_) (by decide), offA_ (hoff 19 (by kernel_rfl)), offA_ (hoff 19 (by kernel_rfl)), offA_ (hoff 21 (by kernel_rfl)), offA_ (hoff 25 (by kernel_rfl)), offA_ (hoff 7 (by kernel_rfl)), offA_ (hoff 15 (by kernel_rfl)), offA_ (hoff 22 (by kernel_rfl))⟩
          refine yax ?_ ?_
          ·
           rintro b a w' ⟨d0, a8, d1, a9, d3, b0, m7_, d5, d6, ha, b2, b3, e3, Q_HK, Q_HB, c2, b1, a2, c1, b9, b6, a3, b7, b4, b8, a5, a6, c0, c7, c3, c6⟩ hb_ hon hoff
           refine ⟨_, rfl, fun K hK => ?_⟩; have e15 : a.tmps[15]? = some (d0) := (by rw [ha]; exact putSel_on (e := (4, 15, d0)) 1 rfl rfl (hon 4 (by kernel_rfl)) rfl); have e17 : a.tmps[17]? = some (.int .i64 e4) := (by rw [ha]; exact putSel_on (e := (6, 17, .int .i64 e4)) 2 rfl rfl (hon 6 (by kernel_rfl)) rfl); replace ha := yaa ha; have b5 := yaa b2; have a7 := yaa (b3 (hoff 25 (by kernel_rfl))); have HK := yaa Q_HK; have HB := yaa Q_HB; have f2 := yaa (b1 (hon 4 (by kernel_rfl))); have d8 := yaa (a2 (hon 4 (by kernel_rfl))); obtain ⟨c_, hv_⟩ := d8.out
           rw [hv_] at e15
           refine value_ (w1 := w') (v := .pointer (some (a8.add (e4).toNat))) (by rfl) rfl ?_ ?_
           ·
            go_simp
            (try simp only [i64_w])
            try rfl
           refine hK.out _ _ ⟨d0, a8, d1, a9, d3, b0, (.pointer (some (a8.add (e4).toNat))), d5, d6, (by rw [ha.out]; exact yaz 3 hb_ rfl rfl rfl), b2, b3, offA_ (hon 3 (by kernel_rfl)), Q_HK, Q_HB, fun _ h1_ => absurd ((hon 6 (by kernel_rfl)).symm.trans h1_) (by decide), b1, a2, c1, b9, b6, a3, b7, b4, b8, a5, a6, offA_ (hoff 25 (by kernel_rfl)), fun _ => rfl, c3, c6⟩
          refine yax ?_ ?_
          ·
           rintro b a w' ⟨d0, a8, d1, a9, d3, b0, m7_, d5, d6, ha, b2, b3, e3, Q_HK, Q_HB, c2, b1, a2, c1, b9, b6, a3, b7, b4, b8, a5, a6, c0, c7, c3, c6⟩ hb_ hon hoff
           refine ⟨_, rfl, fun K hK => ?_⟩; have e18 : a.tmps[18]? = some (m7_) := (by rw [ha]; exact putSel_on (e := (7, 18, m7_)) 3 rfl rfl (hon 7 (by kernel_rfl)) rfl)
           rw [c7 (hon 7 (by kernel_rfl))] at e18
           replace ha := yaa ha; have b5 := yaa b2; have a7 := yaa (b3 (hoff 25 (by kernel_rfl))); have HK := yaa Q_HK; have HB := yaa Q_HB; have f2 := yaa (b1 (hon 4 (by kernel_rfl))); have d8 := yaa (a2 (hon 4 (by kernel_rfl))); obtain ⟨c_, hv_⟩ := d8.out; have hF_ := f2.out
           rw [hv_] at hF_
           obtain ⟨ad_, ea_, hx_⟩ := Kd.at_int (Kd.R_reads' hF_).2.2 e4 (of_eq_true pi117) (of_eq_true qi117)
           cases ea_
           refine value_ (w1 := w') (v := .int .i64 (rd y112 e4)) (by rfl) rfl ?_ ?_
           ·
            go_simp
            (try simp only [i64_w])
            try rfl
           refine hK.out _ _ ⟨d0, a8, d1, a9, d3, b0, m7_, d5, d6, (by rw [ha.out]; exact yaz 4 hb_ rfl rfl rfl), b2, b3, offA_ (hon 3 (by kernel_rfl)), Q_HK, Q_HB, fun _ h1_ => absurd ((hon 6 (by kernel_rfl)).symm.trans h1_) (by decide), b1, a2, c1, b9, b6, a3, b7, b4, b8, a5, a6, offA_ (hoff 25 (by kernel_rfl)), c7, c3, c6⟩
          refine yax ?_ ?_
          ·
           rintro b a w' ⟨d0, a8, d1, a9, d3, b0, m7_, d5, d6, ha, b2, b3, e3, Q_HK, Q_HB, c2, b1, a2, c1, b9, b6, a3, b7, b4, b8, a5, a6, c0, c7, c3, c6⟩ hb_ hon hoff
           refine ⟨_, rfl, fun K hK => ?_⟩; have e21 : a.tmps[21]? = some (.pointer (some ⟨g, 0, none⟩)) := (by rw [ha]; exact (putSel_off rfl).trans rfl); replace ha := yaa ha; have b5 := yaa b2; have a7 := yaa (b3 (hoff 25 (by kernel_rfl))); have HK := yaa Q_HK; have HB := yaa Q_HB; have HI0 := yaa (c1 (hon 6 (by kernel_rfl)) hb_)
           refine goes_ Try.func44 (by kernel_rfl) rfl #[.pointer (some ⟨g, 0, none⟩), .int .i64 256] (by rfl) rfl rfl (by first | (simp only [List.map_toArray, List.map_cons, List.map_nil, Act.eval, Array.getD_eq_getD_getElem?, Option.getD_some, e21]; done) | (simp only [List.map_toArray, List.map_cons, List.map_nil, Act.eval, Array.getD_eq_getD_getElem?, Option.getD_some, e21]; rfl)) ?_
           with_reducible refine (spec_l20Rd_pick.calls k g s0_0 g9 256 g6 f9 w0 _ ?side1 ?side2 A10.out).mono ?_
           (case side1 => repeat (with_reducible first | exact HI0.out | apply yab | apply yac | apply yae | apply yad | refine yaf ?_ a4.out _))
           (case side2 => repeat (with_reducible first | exact HB.out | apply yar | apply yak | apply yap | refine yal ?_ (Aside0.out ‹_›) | refine yal ?_ (IsS86.ge HI0.out)))
           rintro e w28 ⟨rfl, hi, hb, hk⟩; refine ⟨_, rfl, ?_⟩; have n0_ := yaa (KeepBut.blk hk (upB a7.out) e8.out (by simp))
           have n1_ := yaa (yag (yat (yaq (show IsS86 w0 _ g s0_0 g9 from by repeat (with_reducible first | exact HI0.out | apply yab | apply yac | apply yae | apply yad | refine yaf ?_ a4.out _)) (upR b5.out) (by decide)) hk (fun _ h => h.2)) (fun _ h => h.1))
           have n2_ := yaa (yav (by repeat (with_reducible first | exact HK.out | apply yaj | apply yan | apply yas | apply yao | refine yau ?_ d4.out _)) hk (.inl rfl))
           have n3_ := yaa (hb); have n4_ := yaa (hi)
           have d7 := fun (h0_ : b 4 = true) => (show Kd.R (yba .i64) 3 w28 w.heap.size (fun k_ => some k_ ≠ (.slice (some ad109) y104.length f1 : Value).ownBlock) d0 y112 from by first | exact (yag (yat (yaq (show IsS86 w0 _ g s0_0 g9 from by repeat (with_reducible first | exact HI0.out | apply yab | apply yac | apply yae | apply yad | refine yaf ?_ a4.out _)) (by (with_reducible repeat (first | apply yah | apply yai | apply yam)); exact (b1 h0_)) (by decide)) hk (fun _ h => h.2)) (fun _ h => h.1)) | exact yag (yag (yat (yaq (show IsS86 w0 _ g s0_0 g9 from by repeat (with_reducible first | exact HI0.out | apply yab | apply yac | apply yae | apply yad | refine yaf ?_ a4.out _)) (by (with_reducible repeat (first | apply yah | apply yai | apply yam)); exact (b1 h0_)) (by decide)) hk (fun _ h => h.2)) (fun _ h => h.1)) (fun _ h_ => by first | trivial | exact h_ | exact h_.1))
           clear a7; clear b5; clear HK; clear HB; clear HI0; have a7 := n0_; have b5 := n1_; have HK := n2_; have HB := n3_; have HI0 := n4_; clear n0_ n1_ n2_ n3_ n4_; (try clear hb); (try clear hb2); (try clear hk); (try clear hi)
           refine hK.out _ _ ⟨d0, a8, d1, a9, d3, b0, m7_, d5, d6, (by rw [ha.out]; exact yaz 5 hb_ rfl rfl rfl), (upR b5.out), fun _ => (upB a7.out), offA_ (hon 3 (by kernel_rfl)), (by repeat (with_reducible first | exact HK.out | apply yaj | apply yan | apply yas | apply yao | refine yau ?_ d4.out _)), (by repeat (with_reducible first | exact HB.out | apply yar | apply yak | apply yap | refine yal ?_ (Aside0.out ‹_›) | refine yal ?_ (IsS86.ge HI0.out))), fun _ h1_ => absurd ((hon 6 (by kernel_rfl)).symm.trans h1_) (by decide), d7, a2, fun _ h1_ => absurd ((up_self b 11).symm.trans h1_) (by decide), fun _ _ => (by repeat (with_reducible first | exact HI0.out | apply yab | apply yac | apply yae | apply yad | refine yaf ?_ a4.out _)), offA_ (hoff 12 (by kernel_rfl)), offA_ (hoff 12 (by kernel_rfl)), fun h0_ _ => absurd ((hoff 14 (by kernel_rfl)).symm.trans h0_) (by decide), fun h0_ _ => absurd ((hoff 18 (by kernel_rfl)).symm.trans h0_) (by decide), offA_ (hoff 19 (by kernel_rfl)), offA_ (hoff 19 (by kernel_rfl)), offA_ (hoff 21 (by kernel_rfl)), offA_ (hoff 25 (by kernel_rfl)), c7, offA_ (hoff 15 (by kernel_rfl)), offA_ (hoff 22 (by kernel_rfl))⟩
          refine yax ?_ ?_
          ·
           rintro b a w' ⟨d0, a8, d1, a9, d3, b0, m7_, d5, d6, ha, b2, b3, e3, Q_HK, Q_HB, c2, b1, a2, c1, b9, b6, a3, b7, b4, b8, a5, a6, c0, c7, c3, c6⟩ hb_ hon hoff
           refine ⟨_, rfl, fun K hK => ?_⟩; have e20 : a.tmps[20]? = some (.int .i64 (rd y104 e1)) := (by rw [ha]; exact (putSel_off rfl).trans rfl); have e22 : a.tmps[22]? = some (.int .i64 g6) := (by rw [ha]; exact putSel_on (e := (11, 22, .int .i64 g6)) 5 rfl rfl (hon 11 (by kernel_rfl)) rfl); replace ha := yaa ha; have b5 := yaa b2; have a7 := yaa (b3 (hoff 25 (by kernel_rfl))); have HK := yaa Q_HK; have HB := yaa Q_HB
           refine Kd.R_lit_step (yba .i64) _ 3 ?hg (N := 23) ?hd (xs := ([rd y104 e1, g6] : List Int)) (inner := [.int .i64 (rd y104 e1), .int .i64 g6]) (ok := fun _ => True) (okp := fun _ => True) ?hr ?hp (fun _ hk => hk) trivial (Below.refl _ _) (Nat.le_refl _) (by simp) ?_; (case hd => rfl); (case hg => rfl); (case hr => first | (go_simp; done) | (go_simp; rfl)); (case hp => exact (Reps.one (show Kd.M (yba .i64) _ _ _ (rd y104 e1) [.int .i64 (rd y104 e1)] from rfl) (Reps.one (show Kd.M (yba .i64) _ _ _ g6 [.int .i64 g6] from rfl) (Reps.none _ _))))
           intro d1 w29 g2 hb hg_ hnew_; clear hg_ hnew_
           (first | rw [← Ny120.out] at g2 | (simp only [Int.reduceToNat] at g2; rw [← Ny120.out] at g2))
           have n0_ := yaa (yaw (upR b5.out) (Kd.R_base g2) hb)
           have n1_ := yaa (Kd.R_lower (Kd.R_new' g2 (Kd.R_lt (upR b5.out))) (keep_size (w := w) (g := g) (row := none) (by repeat (with_reducible first | exact HK.out | apply yaj | apply yan | apply yas | apply yao | refine yau ?_ d4.out _))))
           have n3_ := yaa (blk_below (upB a7.out) hb)
           have n4_ := yaa (yav (by repeat (with_reducible first | exact HK.out | apply yaj | apply yan | apply yas | apply yao | refine yau ?_ d4.out _)) (KeepBut.of_below hb g none) (.inl rfl))
           have n5_ := yaa (below_step (by repeat (with_reducible first | exact HB.out | apply yar | apply yak | apply yap | refine yal ?_ (Aside0.out ‹_›))) hb)
           have d7 := fun (h0_ : b 4 = true) => (show Kd.R (yba .i64) 3 w29 w.heap.size (fun k_ => some k_ ≠ (.slice (some ad109) y104.length f1 : Value).ownBlock) d0 y112 from by first | exact (yaw (by (with_reducible repeat (first | apply yah | apply yai | apply yam)); exact (b1 h0_)) (Kd.R_base g2) hb) | exact yag (yaw (by (with_reducible repeat (first | apply yah | apply yai | apply yam)); exact (b1 h0_)) (Kd.R_base g2) hb) (fun _ h_ => by first | trivial | exact h_ | exact h_.1))
           have f7 := fun (h0_ : b 11 = true) (h1_ : b 14 = false) => (show IsS86 w0 w29 g s0_0 f9 from by first | exact (yay (by repeat (first | (with_reducible first | exact (b9 h0_ h1_) | apply yab | apply yac | apply yae | apply yad | refine yaf ?_ a4.out _) | exact (b9 h0_ h1_))) hb))
           have f8 := fun (h0_ : b 14 = true) (h1_ : b 18 = false) => (show IsS86 w0 w29 g s0_0 g0 from by first | exact (yay (by repeat (first | (with_reducible first | exact (b7 h0_ h1_) | apply yab | apply yac | apply yae | apply yad | refine yaf ?_ a4.out _) | exact (b7 h0_ h1_))) hb))
           have e9 := fun (h0_ : b 18 = true) (h1_ : b 21 = false) => (show IsS86 w0 w29 g s0_0 f6 from by first | exact (yay (by repeat (first | (with_reducible first | exact (b4 h0_ h1_) | apply yab | apply yac | apply yae | apply yad | refine yaf ?_ a4.out _) | exact (b4 h0_ h1_))) hb))
           have f5 := fun (h0_ : b 19 = true) => (show Kd.R (yba .i64) 3 w29 w.heap.size (fun k_ => some k_ ≠ (.slice (some ad109) y104.length f1 : Value).ownBlock) d3 y128 from by first | exact (yaw (by (with_reducible repeat (first | apply yah | apply yai | apply yam)); exact (b8 h0_)) (Kd.R_base g2) hb) | exact yag (yaw (by (with_reducible repeat (first | apply yah | apply yai | apply yam)); exact (b8 h0_)) (Kd.R_base g2) hb) (fun _ h_ => by first | trivial | exact h_ | exact h_.1))
           have f0 := fun (h0_ : b 21 = true) => (show IsS86 w0 w29 g s0_0 h4 from by first | exact (yay (by repeat (first | (with_reducible first | exact (a6 h0_) | apply yab | apply yac | apply yae | apply yad | refine yaf ?_ a4.out _) | exact (a6 h0_))) hb))
           clear b5; clear a7; clear HK; clear HB; have b5 := n0_; have f3 := n1_; have a7 := n3_; have HK := n4_; have HB := n5_; clear n0_ n1_ n3_ n4_ n5_; clear hb g2; obtain ⟨l0, i9, j0⟩ := Kd.R_slice f3.out; subst j0; obtain ⟨ado31, fo31, _⟩ := Kd.at_int (Kd.R_reads' f3.out).2.2 0 (by decide) (by rw [Ny120.out]; simp)
           cases fo31
           refine hK.out _ _ ⟨d0, a8, .slice (some ado31) y120.length i9, ado31, d3, b0, m7_, d5, d6, (by rw [ha.out]; exact yaz 6 hb_ rfl rfl rfl), (by (with_reducible repeat (first | apply yah | apply yai | apply yam)); exact yag b5.out (fun _ hk => by first | exact hk.2 | exact True.intro)), fun _ => (upB a7.out), offA_ (hon 3 (by kernel_rfl)), (by repeat (with_reducible first | exact HK.out | apply yaj | apply yan | apply yas | apply yao | refine yau ?_ d4.out _)), (by repeat (with_reducible first | exact HB.out | apply yar | apply yak | apply yap | refine yal ?_ (Aside0.out ‹_›))), fun _ h1_ => absurd ((hon 6 (by kernel_rfl)).symm.trans h1_) (by decide), d7, a2, fun _ h1_ => absurd ((hon 11 (by kernel_rfl)).symm.trans h1_) (by decide), f7, fun _ => (by (with_reducible repeat (first | apply yah | apply yai | apply yam)); exact yag f3.out (fun _ hk => by first | exact hk.2 | exact True.intro)), fun _ => ⟨_, rfl⟩, f8, e9, f5, a5, f0, offA_ (hoff 25 (by kernel_rfl)), c7, offA_ (hoff 15 (by kernel_rfl)), c6⟩
          refine yax ?_ ?_
          ·
           rintro b a w' ⟨d0, a8, d1, a9, d3, b0, m7_, d5, d6, ha, b2, b3, e3, Q_HK, Q_HB, c2, b1, a2, c1, b9, b6, a3, b7, b4, b8, a5, a6, c0, c7, c3, c6⟩ hb_ hon hoff
           refine ⟨_, rfl, fun K hK => ?_⟩; have e24 : a.tmps[24]? = some (.pointer (some ⟨g, 0, none⟩)) := (by rw [ha]; exact (putSel_off rfl).trans rfl); replace ha := yaa ha; have b5 := yaa b2; have a7 := yaa (b3 (hoff 25 (by kernel_rfl))); have HK := yaa Q_HK; have HB := yaa Q_HB; have HI0 := yaa (b9 (hon 11 (by kernel_rfl)) hb_)
           refine goes_ Try.func44 (by kernel_rfl) rfl #[.pointer (some ⟨g, 0, none⟩), .int .i64 2] (by rfl) rfl rfl (by first | (simp only [List.map_toArray, List.map_cons, List.map_nil, Act.eval, Array.getD_eq_getD_getElem?, Option.getD_some, e24]; done) | (simp only [List.map_toArray, List.map_cons, List.map_nil, Act.eval, Array.getD_eq_getD_getElem?, Option.getD_some, e24]; rfl)) ?_
           with_reducible refine (spec_l20Rd_pick.calls k g s0_0 f9 2 e5 g0 w0 _ ?side1 ?side2 A11.out).mono ?_
           (case side1 => repeat (with_reducible first | exact HI0.out | apply yab | apply yac | apply yae | apply yad | refine yaf ?_ a4.out _))
           (case side2 => repeat (with_reducible first | exact HB.out | apply yar | apply yak | apply yap | refine yal ?_ (Aside0.out ‹_›) | refine yal ?_ (IsS86.ge HI0.out)))
           rintro e w29 ⟨rfl, hi, hb, hk⟩; refine ⟨_, rfl, ?_⟩; have n0_ := yaa (KeepBut.blk hk (upB a7.out) e8.out (by simp))
           have n1_ := yaa (yag (yat (yaq (show IsS86 w0 _ g s0_0 f9 from by repeat (with_reducible first | exact HI0.out | apply yab | apply yac | apply yae | apply yad | refine yaf ?_ a4.out _)) (upR b5.out) (by decide)) hk (fun _ h => h.2)) (fun _ h => h.1))
           have n2_ := yaa (yav (by repeat (with_reducible first | exact HK.out | apply yaj | apply yan | apply yas | apply yao | refine yau ?_ d4.out _)) hk (.inl rfl))
           have n3_ := yaa (hb); have n4_ := yaa (hi)
           have d7 := fun (h0_ : b 4 = true) => (show Kd.R (yba .i64) 3 w29 w.heap.size (fun k_ => some k_ ≠ (.slice (some ad109) y104.length f1 : Value).ownBlock) d0 y112 from by first | exact (yag (yat (yaq (show IsS86 w0 _ g s0_0 f9 from by repeat (with_reducible first | exact HI0.out | apply yab | apply yac | apply yae | apply yad | refine yaf ?_ a4.out _)) (by (with_reducible repeat (first | apply yah | apply yai | apply yam)); exact (b1 h0_)) (by decide)) hk (fun _ h => h.2)) (fun _ h => h.1)) | exact yag (yag (yat (yaq (show IsS86 w0 _ g s0_0 f9 from by repeat (with_reducible first | exact HI0.out | apply yab | apply yac | apply yae | apply yad | refine yaf ?_ a4.out _)) (by (with_reducible repeat (first | apply yah | apply yai | apply yam)); exact (b1 h0_)) (by decide)) hk (fun _ h => h.2)) (fun _ h => h.1)) (fun _ h_ => by first | trivial | exact h_ | exact h_.1))
           have e7 := fun (h0_ : b 12 = true) => (show Kd.R (yba .i64) 3 w29 w.heap.size (fun k_ => some k_ ≠ (.slice (some ad109) y104.length f1 : Value).ownBlock) d1 y120 from by first | exact (yag (yat (yaq (show IsS86 w0 _ g s0_0 f9 from by repeat (with_reducible first | exact HI0.out | apply yab | apply yac | apply yae | apply yad | refine yaf ?_ a4.out _)) (by (with_reducible repeat (first | apply yah | apply yai | apply yam)); exact (b6 h0_)) (by decide)) hk (fun _ h => h.2)) (fun _ h => h.1)) | exact yag (yag (yat (yaq (show IsS86 w0 _ g s0_0 f9 from by repeat (with_reducible first | exact HI0.out | apply yab | apply yac | apply yae | apply yad | refine yaf ?_ a4.out _)) (by (with_reducible repeat (first | apply yah | apply yai | apply yam)); exact (b6 h0_)) (by decide)) hk (fun _ h => h.2)) (fun _ h => h.1)) (fun _ h_ => by first | trivial | exact h_ | exact h_.1))
           clear a7; clear b5; clear HK; clear HB; clear HI0; have a7 := n0_; have b5 := n1_; have HK := n2_; have HB := n3_; have HI0 := n4_; clear n0_ n1_ n2_ n3_ n4_; (try clear hb); (try clear hb2); (try clear hk); (try clear hi)
           refine hK.out _ _ ⟨d0, a8, d1, a9, d3, b0, m7_, d5, d6, (by rw [ha.out]; exact yaz 7 hb_ rfl rfl rfl), (upR b5.out), fun _ => (upB a7.out), offA_ (hon 3 (by kernel_rfl)), (by repeat (with_reducible first | exact HK.out | apply yaj | apply yan | apply yas | apply yao | refine yau ?_ d4.out _)), (by repeat (with_reducible first | exact HB.out | apply yar | apply yak | apply yap | refine yal ?_ (Aside0.out ‹_›) | refine yal ?_ (IsS86.ge HI0.out))), fun _ h1_ => absurd ((hon 6 (by kernel_rfl)).symm.trans h1_) (by decide), d7, a2, fun _ h1_ => absurd ((hon 11 (by kernel_rfl)).symm.trans h1_) (by decide), fun _ h1_ => absurd ((up_self b 14).symm.trans h1_) (by decide), e7, a3, fun _ _ => (by repeat (with_reducible first | exact HI0.out | apply yab | apply yac | apply yae | apply yad | refine yaf ?_ a4.out _)), fun h0_ _ => absurd ((hoff 18 (by kernel_rfl)).symm.trans h0_) (by decide), offA_ (hoff 19 (by kernel_rfl)), offA_ (hoff 19 (by kernel_rfl)), offA_ (hoff 21 (by kernel_rfl)), offA_ (hoff 25 (by kernel_rfl)), c7, offA_ (hoff 15 (by kernel_rfl)), offA_ (hoff 22 (by kernel_rfl))⟩
          refine yax ?_ ?_
          ·
           rintro b a w' ⟨d0, a8, d1, a9, d3, b0, m7_, d5, d6, ha, b2, b3, e3, Q_HK, Q_HB, c2, b1, a2, c1, b9, b6, a3, b7, b4, b8, a5, a6, c0, c7, c3, c6⟩ hb_ hon hoff
           refine ⟨_, rfl, fun K hK => ?_⟩; have e23 : a.tmps[23]? = some (d1) := (by rw [ha]; exact putSel_on (e := (12, 23, d1)) 6 rfl rfl (hon 12 (by kernel_rfl)) rfl); have e25 : a.tmps[25]? = some (.int .i64 e5) := (by rw [ha]; exact putSel_on (e := (14, 25, .int .i64 e5)) 7 rfl rfl (hon 14 (by kernel_rfl)) rfl); replace ha := yaa ha; have b5 := yaa b2; have a7 := yaa (b3 (hoff 25 (by kernel_rfl))); have HK := yaa Q_HK; have HB := yaa Q_HB; have f3 := yaa (b6 (hon 12 (by kernel_rfl))); have d9 := yaa (a3 (hon 12 (by kernel_rfl))); obtain ⟨c_, hv_⟩ := d9.out
           rw [hv_] at e23
           refine value_ (w1 := w') (v := .pointer (some (a9.add (e5).toNat))) (by rfl) rfl ?_ ?_
           ·
            go_simp
            (try simp only [i64_w])
            try rfl
           refine hK.out _ _ ⟨d0, a8, d1, a9, d3, b0, m7_, (.pointer (some (a9.add (e5).toNat))), d6, (by rw [ha.out]; exact yaz 8 hb_ rfl rfl rfl), b2, b3, offA_ (hon 3 (by kernel_rfl)), Q_HK, Q_HB, fun _ h1_ => absurd ((hon 6 (by kernel_rfl)).symm.trans h1_) (by decide), b1, a2, fun _ h1_ => absurd ((hon 11 (by kernel_rfl)).symm.trans h1_) (by decide), fun _ h1_ => absurd ((hon 14 (by kernel_rfl)).symm.trans h1_) (by decide), b6, a3, b7, b4, b8, a5, a6, offA_ (hoff 25 (by kernel_rfl)), c7, fun _ => rfl, c6⟩
          refine yax ?_ ?_
          ·
           rintro b a w' ⟨d0, a8, d1, a9, d3, b0, m7_, d5, d6, ha, b2, b3, e3, Q_HK, Q_HB, c2, b1, a2, c1, b9, b6, a3, b7, b4, b8, a5, a6, c0, c7, c3, c6⟩ hb_ hon hoff
           refine ⟨_, rfl, fun K hK => ?_⟩; have e26 : a.tmps[26]? = some (d5) := (by rw [ha]; exact putSel_on (e := (15, 26, d5)) 8 rfl rfl (hon 15 (by kernel_rfl)) rfl)
           rw [c3 (hon 15 (by kernel_rfl))] at e26
           replace ha := yaa ha; have b5 := yaa b2; have a7 := yaa (b3 (hoff 25 (by kernel_rfl))); have HK := yaa Q_HK; have HB := yaa Q_HB; have f3 := yaa (b6 (hon 12 (by kernel_rfl))); have d9 := yaa (a3 (hon 12 (by kernel_rfl))); obtain ⟨c_, hv_⟩ := d9.out; have hF_ := f3.out
           rw [hv_] at hF_
           obtain ⟨ad_, ea_, hx_⟩ := Kd.at_int (Kd.R_reads' hF_).2.2 e5 (of_eq_true pi125) (of_eq_true qi125)
           cases ea_
           refine value_ (w1 := w') (v := .int .i64 (rd y120 e5)) (by rfl) rfl ?_ ?_
           ·
            go_simp
            (try simp only [i64_w])
            try rfl
           refine hK.out _ _ ⟨d0, a8, d1, a9, d3, b0, m7_, d5, d6, (by rw [ha.out]; exact yaz 9 hb_ rfl rfl rfl), b2, b3, offA_ (hon 3 (by kernel_rfl)), Q_HK, Q_HB, fun _ h1_ => absurd ((hon 6 (by kernel_rfl)).symm.trans h1_) (by decide), b1, a2, fun _ h1_ => absurd ((hon 11 (by kernel_rfl)).symm.trans h1_) (by decide), fun _ h1_ => absurd ((hon 14 (by kernel_rfl)).symm.trans h1_) (by decide), b6, a3, b7, b4, b8, a5, a6, offA_ (hoff 25 (by kernel_rfl)), c7, c3, c6⟩
          refine yax ?_ ?_
          ·
           rintro b a w' ⟨d0, a8, d1, a9, d3, b0, m7_, d5, d6, ha, b2, b3, e3, Q_HK, Q_HB, c2, b1, a2, c1, b9, b6, a3, b7, b4, b8, a5, a6, c0, c7, c3, c6⟩ hb_ hon hoff
           refine ⟨_, rfl, fun K hK => ?_⟩; have e28 : a.tmps[28]? = some (.pointer (some ⟨g, 0, none⟩)) := (by rw [ha]; exact (putSel_off rfl).trans rfl); replace ha := yaa ha; have b5 := yaa b2; have a7 := yaa (b3 (hoff 25 (by kernel_rfl))); have HK := yaa Q_HK; have HB := yaa Q_HB; have HI0 := yaa (b7 (hon 14 (by kernel_rfl)) hb_)
           refine goes_ Try.func44 (by kernel_rfl) rfl #[.pointer (some ⟨g, 0, none⟩), .int .i64 256] (by rfl) rfl rfl (by first | (simp only [List.map_toArray, List.map_cons, List.map_nil, Act.eval, Array.getD_eq_getD_getElem?, Option.getD_some, e28]; done) | (simp only [List.map_toArray, List.map_cons, List.map_nil, Act.eval, Array.getD_eq_getD_getElem?, Option.getD_some, e28]; rfl)) ?_
           with_reducible refine (spec_l20Rd_pick.calls k g s0_0 g0 256 g7 f6 w0 _ ?side1 ?side2 A14.out).mono ?_
           (case side1 => repeat (with_reducible first | exact HI0.out | apply yab | apply yac | apply yae | apply yad | refine yaf ?_ a4.out _))
           (case side2 => repeat (with_reducible first | exact HB.out | apply yar | apply yak | apply yap | refine yal ?_ (Aside0.out ‹_›) | refine yal ?_ (IsS86.ge HI0.out)))
           rintro e w30 ⟨rfl, hi, hb, hk⟩; refine ⟨_, rfl, ?_⟩; have n0_ := yaa (KeepBut.blk hk (upB a7.out) e8.out (by simp))
           have n1_ := yaa (yag (yat (yaq (show IsS86 w0 _ g s0_0 g0 from by repeat (with_reducible first | exact HI0.out | apply yab | apply yac | apply yae | apply yad | refine yaf ?_ a4.out _)) (upR b5.out) (by decide)) hk (fun _ h => h.2)) (fun _ h => h.1))
           have n2_ := yaa (yav (by repeat (with_reducible first | exact HK.out | apply yaj | apply yan | apply yas | apply yao | refine yau ?_ d4.out _)) hk (.inl rfl))
           have n3_ := yaa (hb); have n4_ := yaa (hi)
           have d7 := fun (h0_ : b 4 = true) => (show Kd.R (yba .i64) 3 w30 w.heap.size (fun k_ => some k_ ≠ (.slice (some ad109) y104.length f1 : Value).ownBlock) d0 y112 from by first | exact (yag (yat (yaq (show IsS86 w0 _ g s0_0 g0 from by repeat (with_reducible first | exact HI0.out | apply yab | apply yac | apply yae | apply yad | refine yaf ?_ a4.out _)) (by (with_reducible repeat (first | apply yah | apply yai | apply yam)); exact (b1 h0_)) (by decide)) hk (fun _ h => h.2)) (fun _ h => h.1)) | exact yag (yag (yat (yaq (show IsS86 w0 _ g s0_0 g0 from by repeat (with_reducible first | exact HI0.out | apply yab | apply yac | apply yae | apply yad | refine yaf ?_ a4.out _)) (by (with_reducible repeat (first | apply yah | apply yai | apply yam)); exact (b1 h0_)) (by decide)) hk (fun _ h => h.2)) (fun _ h => h.1)) (fun _ h_ => by first | trivial | exact h_ | exact h_.1))
           have e7 := fun (h0_ : b 12 = true) => (show Kd.R (yba .i64) 3 w30 w.heap.size (fun k_ => some k_ ≠ (.slice (some ad109) y104.length f1 : Value).ownBlock) d1 y120 from by first | exact (yag (yat (yaq (show IsS86 w0 _ g s0_0 g0 from by repeat (with_reducible first | exact HI0.out | apply yab | apply yac | apply yae | apply yad | refine yaf ?_ a4.out _)) (by (with_reducible repeat (first | apply yah | apply yai | apply yam)); exact (b6 h0_)) (by decide)) hk (fun _ h => h.2)) (fun _ h => h.1)) | exact yag (yag (yat (yaq (show IsS86 w0 _ g s0_0 g0 from by repeat (with_reducible first | exact HI0.out | apply yab | apply yac | apply yae | apply yad | refine yaf ?_ a4.out _)) (by (with_reducible repeat (first | apply yah | apply yai | apply yam)); exact (b6 h0_)) (by decide)) hk (fun _ h => h.2)) (fun _ h => h.1)) (fun _ h_ => by first | trivial | exact h_ | exact h_.1))
           clear a7; clear b5; clear HK; clear HB; clear HI0; have a7 := n0_; have b5 := n1_; have HK := n2_; have HB := n3_; have HI0 := n4_; clear n0_ n1_ n2_ n3_ n4_; (try clear hb); (try clear hb2); (try clear hk); (try clear hi)
           refine hK.out _ _ ⟨d0, a8, d1, a9, d3, b0, m7_, d5, d6, (by rw [ha.out]; exact yaz 10 hb_ rfl rfl rfl), (upR b5.out), fun _ => (upB a7.out), offA_ (hon 3 (by kernel_rfl)), (by repeat (with_reducible first | exact HK.out | apply yaj | apply yan | apply yas | apply yao | refine yau ?_ d4.out _)), (by repeat (with_reducible first | exact HB.out | apply yar | apply yak | apply yap | refine yal ?_ (Aside0.out ‹_›) | refine yal ?_ (IsS86.ge HI0.out))), fun _ h1_ => absurd ((hon 6 (by kernel_rfl)).symm.trans h1_) (by decide), d7, a2, fun _ h1_ => absurd ((hon 11 (by kernel_rfl)).symm.trans h1_) (by decide), fun _ h1_ => absurd ((hon 14 (by kernel_rfl)).symm.trans h1_) (by decide), e7, a3, fun _ h1_ => absurd ((up_self b 18).symm.trans h1_) (by decide), fun _ _ => (by repeat (with_reducible first | exact HI0.out | apply yab | apply yac | apply yae | apply yad | refine yaf ?_ a4.out _)), offA_ (hoff 19 (by kernel_rfl)), offA_ (hoff 19 (by kernel_rfl)), offA_ (hoff 21 (by kernel_rfl)), offA_ (hoff 25 (by kernel_rfl)), c7, c3, offA_ (hoff 22 (by kernel_rfl))⟩
          refine yax ?_ ?_
          ·
           rintro b a w' ⟨d0, a8, d1, a9, d3, b0, m7_, d5, d6, ha, b2, b3, e3, Q_HK, Q_HB, c2, b1, a2, c1, b9, b6, a3, b7, b4, b8, a5, a6, c0, c7, c3, c6⟩ hb_ hon hoff
           refine ⟨_, rfl, fun K hK => ?_⟩; have e29 : a.tmps[29]? = some (.int .i64 g7) := (by rw [ha]; exact putSel_on (e := (18, 29, .int .i64 g7)) 10 rfl rfl (hon 18 (by kernel_rfl)) rfl); replace ha := yaa ha; have b5 := yaa b2; have a7 := yaa (b3 (hoff 25 (by kernel_rfl))); have HK := yaa Q_HK; have HB := yaa Q_HB
           refine Kd.R_lit_step (yba .i64) _ 3 ?hg (N := 30) ?hd (xs := ([255, 255, 0, g7] : List Int)) (inner := [.int .i64 255, .int .i64 255, .int .i64 0, .int .i64 g7]) (ok := fun _ => True) (okp := fun _ => True) ?hr ?hp (fun _ hk => hk) trivial (Below.refl _ _) (Nat.le_refl _) (by simp) ?_; (case hd => rfl); (case hg => rfl); (case hr => first | (go_simp; done) | (go_simp; rfl)); (case hp => exact (Reps.one (show Kd.M (yba .i64) _ _ _ 255 [.int .i64 255] from rfl) (Reps.one (show Kd.M (yba .i64) _ _ _ 255 [.int .i64 255] from rfl) (Reps.one (show Kd.M (yba .i64) _ _ _ 0 [.int .i64 0] from rfl) (Reps.one (show Kd.M (yba .i64) _ _ _ g7 [.int .i64 g7] from rfl) (Reps.none _ _))))))
           intro d3 w31 g3 hb hg_ hnew_; clear hg_ hnew_
           (first | rw [← Ny128.out] at g3 | (simp only [Int.reduceToNat] at g3; rw [← Ny128.out] at g3))
           have n0_ := yaa (yaw (upR b5.out) (Kd.R_base g3) hb)
           have n1_ := yaa (Kd.R_lower (Kd.R_new' g3 (Kd.R_lt (upR b5.out))) (keep_size (w := w) (g := g) (row := none) (by repeat (with_reducible first | exact HK.out | apply yaj | apply yan | apply yas | apply yao | refine yau ?_ d4.out _))))
           have n3_ := yaa (blk_below (upB a7.out) hb)
           have n4_ := yaa (yav (by repeat (with_reducible first | exact HK.out | apply yaj | apply yan | apply yas | apply yao | refine yau ?_ d4.out _)) (KeepBut.of_below hb g none) (.inl rfl))
           have n5_ := yaa (below_step (by repeat (with_reducible first | exact HB.out | apply yar | apply yak | apply yap | refine yal ?_ (Aside0.out ‹_›))) hb)
           have d7 := fun (h0_ : b 4 = true) => (show Kd.R (yba .i64) 3 w31 w.heap.size (fun k_ => some k_ ≠ (.slice (some ad109) y104.length f1 : Value).ownBlock) d0 y112 from by first | exact (yaw (by (with_reducible repeat (first | apply yah | apply yai | apply yam)); exact (b1 h0_)) (Kd.R_base g3) hb) | exact yag (yaw (by (with_reducible repeat (first | apply yah | apply yai | apply yam)); exact (b1 h0_)) (Kd.R_base g3) hb) (fun _ h_ => by first | trivial | exact h_ | exact h_.1))
           have e7 := fun (h0_ : b 12 = true) => (show Kd.R (yba .i64) 3 w31 w.heap.size (fun k_ => some k_ ≠ (.slice (some ad109) y104.length f1 : Value).ownBlock) d1 y120 from by first | exact (yaw (by (with_reducible repeat (first | apply yah | apply yai | apply yam)); exact (b6 h0_)) (Kd.R_base g3) hb) | exact yag (yaw (by (with_reducible repeat (first | apply yah | apply yai | apply yam)); exact (b6 h0_)) (Kd.R_base g3) hb) (fun _ h_ => by first | trivial | exact h_ | exact h_.1))
           have e9 := fun (h0_ : b 18 = true) (h1_ : b 21 = false) => (show IsS86 w0 w31 g s0_0 f6 from by first | exact (yay (by repeat (first | (with_reducible first | exact (b4 h0_ h1_) | apply yab | apply yac | apply yae | apply yad | refine yaf ?_ a4.out _) | exact (b4 h0_ h1_))) hb))
           have f0 := fun (h0_ : b 21 = true) => (show IsS86 w0 w31 g s0_0 h4 from by first | exact (yay (by repeat (first | (with_reducible first | exact (a6 h0_) | apply yab | apply yac | apply yae | apply yad | refine yaf ?_ a4.out _) | exact (a6 h0_))) hb))
           clear b5; clear a7; clear HK; clear HB; have b5 := n0_; have f4 := n1_; have a7 := n3_; have HK := n4_; have HB := n5_; clear n0_ n1_ n3_ n4_ n5_; clear hb g3; obtain ⟨l1, j1, j2⟩ := Kd.R_slice f4.out; subst j2; obtain ⟨ado33, fo33, _⟩ := Kd.at_int (Kd.R_reads' f4.out).2.2 0 (by decide) (by rw [Ny128.out]; simp)
           cases fo33
           refine hK.out _ _ ⟨d0, a8, d1, a9, .slice (some ado33) y128.length j1, ado33, m7_, d5, d6, (by rw [ha.out]; exact yaz 11 hb_ rfl rfl rfl), (by (with_reducible repeat (first | apply yah | apply yai | apply yam)); exact yag b5.out (fun _ hk => by first | exact hk.2 | exact True.intro)), fun _ => (upB a7.out), offA_ (hon 3 (by kernel_rfl)), (by repeat (with_reducible first | exact HK.out | apply yaj | apply yan | apply yas | apply yao | refine yau ?_ d4.out _)), (by repeat (with_reducible first | exact HB.out | apply yar | apply yak | apply yap | refine yal ?_ (Aside0.out ‹_›))), fun _ h1_ => absurd ((hon 6 (by kernel_rfl)).symm.trans h1_) (by decide), d7, a2, fun _ h1_ => absurd ((hon 11 (by kernel_rfl)).symm.trans h1_) (by decide), fun _ h1_ => absurd ((hon 14 (by kernel_rfl)).symm.trans h1_) (by decide), e7, a3, fun _ h1_ => absurd ((hon 18 (by kernel_rfl)).symm.trans h1_) (by decide), e9, fun _ => (by (with_reducible repeat (first | apply yah | apply yai | apply yam)); exact yag f4.out (fun _ hk => by first | exact hk.2 | exact True.intro)), fun _ => ⟨_, rfl⟩, f0, offA_ (hoff 25 (by kernel_rfl)), c7, c3, offA_ (hoff 22 (by kernel_rfl))⟩
          refine yax ?_ ?_
          ·
           rintro b a w' ⟨d0, a8, d1, a9, d3, b0, m7_, d5, d6, ha, b2, b3, e3, Q_HK, Q_HB, c2, b1, a2, c1, b9, b6, a3, b7, b4, b8, a5, a6, c0, c7, c3, c6⟩ hb_ hon hoff
           refine ⟨_, rfl, fun K hK => ?_⟩; have e31 : a.tmps[31]? = some (.pointer (some ⟨g, 0, none⟩)) := (by rw [ha]; exact (putSel_off rfl).trans rfl); replace ha := yaa ha; have b5 := yaa b2; have a7 := yaa (b3 (hoff 25 (by kernel_rfl))); have HK := yaa Q_HK; have HB := yaa Q_HB; have HI0 := yaa (b4 (hon 18 (by kernel_rfl)) hb_)
           refine goes_ Try.func44 (by kernel_rfl) rfl #[.pointer (some ⟨g, 0, none⟩), .int .i64 4] (by rfl) rfl rfl (by first | (simp only [List.map_toArray, List.map_cons, List.map_nil, Act.eval, Array.getD_eq_getD_getElem?, Option.getD_some, e31]; done) | (simp only [List.map_toArray, List.map_cons, List.map_nil, Act.eval, Array.getD_eq_getD_getElem?, Option.getD_some, e31]; rfl)) ?_
           with_reducible refine (spec_l20Rd_pick.calls k g s0_0 f6 4 e6 h4 w0 _ ?side1 ?side2 A15.out).mono ?_
           (case side1 => repeat (with_reducible first | exact HI0.out | apply yab | apply yac | apply yae | apply yad | refine yaf ?_ a4.out _))
           (case side2 => repeat (with_reducible first | exact HB.out | apply yar | apply yak | apply yap | refine yal ?_ (Aside0.out ‹_›) | refine yal ?_ (IsS86.ge HI0.out)))
           rintro e w31 ⟨rfl, hi, hb, hk⟩; refine ⟨_, rfl, ?_⟩; have n0_ := yaa (KeepBut.blk hk (upB a7.out) e8.out (by simp))
           have n1_ := yaa (yag (yat (yaq (show IsS86 w0 _ g s0_0 f6 from by repeat (with_reducible first | exact HI0.out | apply yab | apply yac | apply yae | apply yad | refine yaf ?_ a4.out _)) (upR b5.out) (by decide)) hk (fun _ h => h.2)) (fun _ h => h.1))
           have n2_ := yaa (yav (by repeat (with_reducible first | exact HK.out | apply yaj | apply yan | apply yas | apply yao | refine yau ?_ d4.out _)) hk (.inl rfl))
           have n3_ := yaa (hb); have n4_ := yaa (hi)
           have d7 := fun (h0_ : b 4 = true) => (show Kd.R (yba .i64) 3 w31 w.heap.size (fun k_ => some k_ ≠ (.slice (some ad109) y104.length f1 : Value).ownBlock) d0 y112 from by first | exact (yag (yat (yaq (show IsS86 w0 _ g s0_0 f6 from by repeat (with_reducible first | exact HI0.out | apply yab | apply yac | apply yae | apply yad | refine yaf ?_ a4.out _)) (by (with_reducible repeat (first | apply yah | apply yai | apply yam)); exact (b1 h0_)) (by decide)) hk (fun _ h => h.2)) (fun _ h => h.1)) | exact yag (yag (yat (yaq (show IsS86 w0 _ g s0_0 f6 from by repeat (with_reducible first | exact HI0.out | apply yab | apply yac | apply yae | apply yad | refine yaf ?_ a4.out _)) (by (with_reducible repeat (first | apply yah | apply yai | apply yam)); exact (b1 h0_)) (by decide)) hk (fun _ h => h.2)) (fun _ h => h.1)) (fun _ h_ => by first | trivial | exact h_ | exact h_.1))
           have e7 := fun (h0_ : b 12 = true) => (show Kd.R (yba .i64) 3 w31 w.heap.size (fun k_ => some k_ ≠ (.slice (some ad109) y104.length f1 : Value).ownBlock) d1 y120 from by first | exact (yag (yat (yaq (show IsS86 w0 _ g s0_0 f6 from by repeat (with_reducible first | exact HI0.out | apply yab | apply yac | apply yae | apply yad | refine yaf ?_ a4.out _)) (by (with_reducible repeat (first | apply yah | apply yai | apply yam)); exact (b6 h0_)) (by decide)) hk (fun _ h => h.2)) (fun _ h => h.1)) | exact yag (yag (yat (yaq (show IsS86 w0 _ g s0_0 f6 from by repeat (with_reducible first | exact HI0.out | apply yab | apply yac | apply yae | apply yad | refine yaf ?_ a4.out _)) (by (with_reducible repeat (first | apply yah | apply yai | apply yam)); exact (b6 h0_)) (by decide)) hk (fun _ h => h.2)) (fun _ h => h.1)) (fun _ h_ => by first | trivial | exact h_ | exact h_.1))
           have f5 := fun (h0_ : b 19 = true) => (show Kd.R (yba .i64) 3 w31 w.heap.size (fun k_ => some k_ ≠ (.slice (some ad109) y104.length f1 : Value).ownBlock) d3 y128 from by first | exact (yag (yat (yaq (show IsS86 w0 _ g s0_0 f6 from by repeat (with_reducible first | exact HI0.out | apply yab | apply yac | apply yae | apply yad | refine yaf ?_ a4.out _)) (by (with_reducible repeat (first | apply yah | apply yai | apply yam)); exact (b8 h0_)) (by decide)) hk (fun _ h => h.2)) (fun _ h => h.1)) | exact yag (yag (yat (yaq (show IsS86 w0 _ g s0_0 f6 from by repeat (with_reducible first | exact HI0.out | apply yab | apply yac | apply yae | apply yad | refine yaf ?_ a4.out _)) (by (with_reducible repeat (first | apply yah | apply yai | apply yam)); exact (b8 h0_)) (by decide)) hk (fun _ h => h.2)) (fun _ h => h.1)) (fun _ h_ => by first | trivial | exact h_ | exact h_.1))
           clear a7; clear b5; clear HK; clear HB; clear HI0; have a7 := n0_; have b5 := n1_; have HK := n2_; have HB := n3_; have HI0 := n4_; clear n0_ n1_ n2_ n3_ n4_; (try clear hb); (try clear hb2); (try clear hk); (try clear hi)
           refine hK.out _ _ ⟨d0, a8, d1, a9, d3, b0, m7_, d5, d6, (by rw [ha.out]; exact yaz 12 hb_ rfl rfl rfl), (upR b5.out), fun _ => (upB a7.out), offA_ (hon 3 (by kernel_rfl)), (by repeat (with_reducible first | exact HK.out | apply yaj | apply yan | apply yas | apply yao | refine yau ?_ d4.out _)), (by repeat (with_reducible first | exact HB.out | apply yar | apply yak | apply yap | refine yal ?_ (Aside0.out ‹_›) | refine yal ?_ (IsS86.ge HI0.out))), fun _ h1_ => absurd ((hon 6 (by kernel_rfl)).symm.trans h1_) (by decide), d7, a2, fun _ h1_ => absurd ((hon 11 (by kernel_rfl)).symm.trans h1_) (by decide), fun _ h1_ => absurd ((hon 14 (by kernel_rfl)).symm.trans h1_) (by decide), e7, a3, fun _ h1_ => absurd ((hon 18 (by kernel_rfl)).symm.trans h1_) (by decide), fun _ h1_ => absurd ((up_self b 21).symm.trans h1_) (by decide), f5, a5, fun _ => (by repeat (with_reducible first | exact HI0.out | apply yab | apply yac | apply yae | apply yad | refine yaf ?_ a4.out _)), offA_ (hoff 25 (by kernel_rfl)), c7, c3, offA_ (hoff 22 (by kernel_rfl))⟩
          refine yax ?_ ?_
          ·
           rintro b a w' ⟨d0, a8, d1, a9, d3, b0, m7_, d5, d6, ha, b2, b3, e3, Q_HK, Q_HB, c2, b1, a2, c1, b9, b6, a3, b7, b4, b8, a5, a6, c0, c7, c3, c6⟩ hb_ hon hoff
           refine ⟨_, rfl, fun K hK => ?_⟩; have e30 : a.tmps[30]? = some (d3) := (by rw [ha]; exact putSel_on (e := (19, 30, d3)) 11 rfl rfl (hon 19 (by kernel_rfl)) rfl); have e32 : a.tmps[32]? = some (.int .i64 e6) := (by rw [ha]; exact putSel_on (e := (21, 32, .int .i64 e6)) 12 rfl rfl (hon 21 (by kernel_rfl)) rfl); replace ha := yaa ha; have b5 := yaa b2; have a7 := yaa (b3 (hoff 25 (by kernel_rfl))); have HK := yaa Q_HK; have HB := yaa Q_HB; have f4 := yaa (b8 (hon 19 (by kernel_rfl))); have e0 := yaa (a5 (hon 19 (by kernel_rfl))); have HI0 := yaa (a6 (hon 21 (by kernel_rfl))); obtain ⟨c_, hv_⟩ := e0.out
           rw [hv_] at e30
           refine value_ (w1 := w') (v := .pointer (some (b0.add (e6).toNat))) (by rfl) rfl ?_ ?_
           ·
            go_simp
            (try simp only [i64_w])
            try rfl
           refine hK.out _ _ ⟨d0, a8, d1, a9, d3, b0, m7_, d5, (.pointer (some (b0.add (e6).toNat))), (by rw [ha.out]; exact yaz 13 hb_ rfl rfl rfl), b2, b3, offA_ (hon 3 (by kernel_rfl)), Q_HK, Q_HB, fun _ h1_ => absurd ((hon 6 (by kernel_rfl)).symm.trans h1_) (by decide), b1, a2, fun _ h1_ => absurd ((hon 11 (by kernel_rfl)).symm.trans h1_) (by decide), fun _ h1_ => absurd ((hon 14 (by kernel_rfl)).symm.trans h1_) (by decide), b6, a3, fun _ h1_ => absurd ((hon 18 (by kernel_rfl)).symm.trans h1_) (by decide), fun _ h1_ => absurd ((hon 21 (by kernel_rfl)).symm.trans h1_) (by decide), b8, a5, a6, offA_ (hoff 25 (by kernel_rfl)), c7, c3, fun _ => rfl⟩
          refine yax ?_ ?_
          ·
           rintro b a w' ⟨d0, a8, d1, a9, d3, b0, m7_, d5, d6, ha, b2, b3, e3, Q_HK, Q_HB, c2, b1, a2, c1, b9, b6, a3, b7, b4, b8, a5, a6, c0, c7, c3, c6⟩ hb_ hon hoff
           refine ⟨_, rfl, fun K hK => ?_⟩; have e33 : a.tmps[33]? = some (d6) := (by rw [ha]; exact putSel_on (e := (22, 33, d6)) 13 rfl rfl (hon 22 (by kernel_rfl)) rfl)
           rw [c6 (hon 22 (by kernel_rfl))] at e33
           replace ha := yaa ha; have b5 := yaa b2; have a7 := yaa (b3 (hoff 25 (by kernel_rfl))); have HK := yaa Q_HK; have HB := yaa Q_HB; have f4 := yaa (b8 (hon 19 (by kernel_rfl))); have e0 := yaa (a5 (hon 19 (by kernel_rfl))); have HI0 := yaa (a6 (hon 21 (by kernel_rfl))); obtain ⟨c_, hv_⟩ := e0.out; have hF_ := f4.out
           rw [hv_] at hF_
           obtain ⟨ad_, ea_, hx_⟩ := Kd.at_int (Kd.R_reads' hF_).2.2 e6 (of_eq_true pi133) (of_eq_true qi133)
           cases ea_
           refine value_ (w1 := w') (v := .int .i64 (rd y128 e6)) (by rfl) rfl ?_ ?_
           ·
            go_simp
            (try simp only [i64_w])
            try rfl
           refine hK.out _ _ ⟨d0, a8, d1, a9, d3, b0, m7_, d5, d6, (by rw [ha.out]; exact yaz 14 hb_ rfl rfl rfl), b2, b3, offA_ (hon 3 (by kernel_rfl)), Q_HK, Q_HB, fun _ h1_ => absurd ((hon 6 (by kernel_rfl)).symm.trans h1_) (by decide), b1, a2, fun _ h1_ => absurd ((hon 11 (by kernel_rfl)).symm.trans h1_) (by decide), fun _ h1_ => absurd ((hon 14 (by kernel_rfl)).symm.trans h1_) (by decide), b6, a3, fun _ h1_ => absurd ((hon 18 (by kernel_rfl)).symm.trans h1_) (by decide), fun _ h1_ => absurd ((hon 21 (by kernel_rfl)).symm.trans h1_) (by decide), b8, a5, a6, offA_ (hoff 25 (by kernel_rfl)), c7, c3, c6⟩
          refine yax ?_ ?_
          ·
           rintro b a w' ⟨d0, a8, d1, a9, d3, b0, m7_, d5, d6, ha, b2, b3, e3, Q_HK, Q_HB, c2, b1, a2, c1, b9, b6, a3, b7, b4, b8, a5, a6, c0, c7, c3, c6⟩ hb_ hon hoff
           refine ⟨_, rfl, fun K hK => ?_⟩; have e11 : a.tmps[11]? = some (.int .i64 (rd y104 e1)) := (by rw [ha]; exact (putSel_off rfl).trans rfl); have e19 : a.tmps[19]? = some (.int .i64 (rd y112 e4)) := (by rw [ha]; exact putSel_on (e := (8, 19, .int .i64 (rd y112 e4))) 4 rfl rfl (hon 8 (by kernel_rfl)) rfl); have e27 : a.tmps[27]? = some (.int .i64 (rd y120 e5)) := (by rw [ha]; exact putSel_on (e := (16, 27, .int .i64 (rd y120 e5))) 9 rfl rfl (hon 16 (by kernel_rfl)) rfl); have e34 : a.tmps[34]? = some (.int .i64 (rd y128 e6)) := (by rw [ha]; exact putSel_on (e := (23, 34, .int .i64 (rd y128 e6))) 14 rfl rfl (hon 23 (by kernel_rfl)) rfl); replace ha := yaa ha; have b5 := yaa b2; have a7 := yaa (b3 (hoff 25 (by kernel_rfl))); have HK := yaa Q_HK; have HB := yaa Q_HB; have f2 := yaa (b1 (hon 4 (by kernel_rfl))); have d8 := yaa (a2 (hon 4 (by kernel_rfl))); have f3 := yaa (b6 (hon 12 (by kernel_rfl))); have d9 := yaa (a3 (hon 12 (by kernel_rfl))); have f4 := yaa (b8 (hon 19 (by kernel_rfl))); have e0 := yaa (a5 (hon 19 (by kernel_rfl))); have HI0 := yaa (a6 (hon 21 (by kernel_rfl)))
           refine value_ (w1 := w') (v := .agg #[.int .i64 (rd y104 e1), .int .i64 (rd y112 e4), .int .i64 (rd y120 e5), .int .i64 (rd y128 e6)]) (by rfl) rfl ?_ ?_
           ·
            go_simp
            (try simp only [i64_w])
            try rfl
           refine hK.out _ _ ⟨d0, a8, d1, a9, d3, b0, m7_, d5, d6, (by rw [ha.out]; exact yaz 15 hb_ rfl rfl rfl), b2, b3, offA_ (hon 3 (by kernel_rfl)), Q_HK, Q_HB, fun _ h1_ => absurd ((hon 6 (by kernel_rfl)).symm.trans h1_) (by decide), b1, a2, fun _ h1_ => absurd ((hon 11 (by kernel_rfl)).symm.trans h1_) (by decide), fun _ h1_ => absurd ((hon 14 (by kernel_rfl)).symm.trans h1_) (by decide), b6, a3, fun _ h1_ => absurd ((hon 18 (by kernel_rfl)).symm.trans h1_) (by decide), fun _ h1_ => absurd ((hon 21 (by kernel_rfl)).symm.trans h1_) (by decide), b8, a5, a6, offA_ (hoff 25 (by kernel_rfl)), c7, c3, c6⟩
          refine yax ?_ ?_
          ·
           rintro b a w' ⟨d0, a8, d1, a9, d3, b0, m7_, d5, d6, ha, b2, b3, e3, Q_HK, Q_HB, c2, b1, a2, c1, b9, b6, a3, b7, b4, b8, a5, a6, c0, c7, c3, c6⟩ hb_ hon hoff
           refine ⟨_, rfl, fun K hK => ?_⟩; have e2 : a.tmps[2]? = some (.pointer (some ⟨d2, 0, none⟩)) := (by rw [ha]; exact (putSel_off rfl).trans rfl); have e35 : a.tmps[35]? = some (.agg #[.int .i64 (rd y104 e1), .int .i64 (rd y112 e4), .int .i64 (rd y120 e5), .int .i64 (rd y128 e6)]) := (by rw [ha]; exact putSel_on (e := (24, 35, .agg #[.int .i64 (rd y104 e1), .int .i64 (rd y112 e4), .int .i64 (rd y120 e5), .int .i64 (rd y128 e6)])) 15 rfl rfl (hon 24 (by kernel_rfl)) rfl); replace ha := yaa ha; have b5 := yaa b2; have a7 := yaa (b3 hb_); have HK := yaa Q_HK; have HB := yaa Q_HB; have f2 := yaa (b1 (hon 4 (by kernel_rfl))); have d8 := yaa (a2 (hon 4 (by kernel_rfl))); have f3 := yaa (b6 (hon 12 (by kernel_rfl))); have d9 := yaa (a3 (hon 12 (by kernel_rfl))); have f4 := yaa (b8 (hon 19 (by kernel_rfl))); have e0 := yaa (a5 (hon 19 (by kernel_rfl))); have HI0 := yaa (a6 (hon 21 (by kernel_rfl))); obtain ⟨j3, j4⟩ := d8.out; clear d8; subst j4; obtain ⟨j5, j6⟩ := d9.out; clear d9; subst j6; obtain ⟨j7, j8⟩ := e0.out; clear e0; subst j8; have l2 : w'.cell? ⟨d2, 0, none⟩ = some (.int .i64 0) := (blk_cell a7.out 0).trans rfl; have k3 := blk_frozen a7.out 0; have l3 : w'.cell? ⟨d2, 1, none⟩ = some (.int .i64 0) := (blk_cell a7.out 1).trans rfl; have k4 := blk_frozen a7.out 1; have l4 : w'.cell? ⟨d2, 2, none⟩ = some (.int .i64 0) := (blk_cell a7.out 2).trans rfl; have k5 := blk_frozen a7.out 2; have l5 : w'.cell? ⟨d2, 3, none⟩ = some (.int .i64 0) := (blk_cell a7.out 3).trans rfl; have k6 := blk_frozen a7.out 3
           refine skip_ (w1 := ?_) (by rfl) rfl ?_ ?_
           rotate_left
           ·
            go_simp
            rfl
           refine hK.out _ _ ⟨.slice (some a8) y112.length j3, a8, .slice (some a9) y120.length j5, a9, .slice (some b0) y128.length j7, b0, m7_, d5, d6, (by rw [ha.out]; exact putSel_none (v := undef) rfl), (by (with_reducible repeat (first | apply yah | apply yai | apply yam)); exact yag (Kd.R_far (p := ⟨d2, 3, none⟩) (Kd.R_far (p := ⟨d2, 2, none⟩) (Kd.R_far (p := ⟨d2, 1, none⟩) (Kd.R_far (p := ⟨d2, 0, none⟩) (Kd.R_types b5.out a7.out (by decide)) (fun _ hk => hk.2) (.int .i64 (rd y104 e1))) (fun _ hk => hk.2) (.int .i64 (rd y112 e4))) (fun _ hk => hk.2) (.int .i64 (rd y120 e5))) (fun _ hk => hk.2) (.int .i64 (rd y128 e6))) (fun _ hk => by first | exact ⟨hk.1.1, ⟨hk.1.2.1, hk.1.2.2⟩⟩ | exact True.intro | exact hk.1 | exact hk.1.1 | exact hk.1.2.1 | exact hk.1.2.2 | exact hk.2)), fun h0_ => absurd ((up_self b 25).symm.trans h0_) (by decide), offA_ (hon 3 (by kernel_rfl)), (by repeat (with_reducible first | exact HK.out | apply yaj | apply yan | apply yas | apply yao | refine yau ?_ d4.out _)), (by repeat (with_reducible first | exact HB.out | apply yar | apply yak | apply yap | refine yal ?_ (Aside0.out ‹_›) | refine yal ?_ (IsS86.ge HI0.out))), fun _ h1_ => absurd ((hon 6 (by kernel_rfl)).symm.trans h1_) (by decide), fun _ => (by (with_reducible repeat (first | apply yah | apply yai | apply yam)); exact yag (Kd.R_far (p := ⟨d2, 3, none⟩) (Kd.R_far (p := ⟨d2, 2, none⟩) (Kd.R_far (p := ⟨d2, 1, none⟩) (Kd.R_far (p := ⟨d2, 0, none⟩) (Kd.R_types f2.out a7.out (by decide)) (fun _ hk => hk.2) (.int .i64 (rd y104 e1))) (fun _ hk => hk.2) (.int .i64 (rd y112 e4))) (fun _ hk => hk.2) (.int .i64 (rd y120 e5))) (fun _ hk => hk.2) (.int .i64 (rd y128 e6))) (fun _ hk => by first | exact ⟨hk.1.1, ⟨hk.1.2.1, hk.1.2.2⟩⟩ | exact True.intro | exact hk.1 | exact hk.1.1 | exact hk.1.2.1 | exact hk.1.2.2 | exact hk.2)), fun _ => ⟨_, rfl⟩, fun _ h1_ => absurd ((hon 11 (by kernel_rfl)).symm.trans h1_) (by decide), fun _ h1_ => absurd ((hon 14 (by kernel_rfl)).symm.trans h1_) (by decide), fun _ => (by (with_reducible repeat (first | apply yah | apply yai | apply yam)); exact yag (Kd.R_far (p := ⟨d2, 3, none⟩) (Kd.R_far (p := ⟨d2, 2, none⟩) (Kd.R_far (p := ⟨d2, 1, none⟩) (Kd.R_far (p := ⟨d2, 0, none⟩) (Kd.R_types f3.out a7.out (by decide)) (fun _ hk => hk.2) (.int .i64 (rd y104 e1))) (fun _ hk => hk.2) (.int .i64 (rd y112 e4))) (fun _ hk => hk.2) (.int .i64 (rd y120 e5))) (fun _ hk => hk.2) (.int .i64 (rd y128 e6))) (fun _ hk => by first | exact ⟨hk.1.1, ⟨hk.1.2.1, hk.1.2.2⟩⟩ | exact True.intro | exact hk.1 | exact hk.1.1 | exact hk.1.2.1 | exact hk.1.2.2 | exact hk.2)), fun _ => ⟨_, rfl⟩, fun _ h1_ => absurd ((hon 18 (by kernel_rfl)).symm.trans h1_) (by decide), fun _ h1_ => absurd ((hon 21 (by kernel_rfl)).symm.trans h1_) (by decide), fun _ => (by (with_reducible repeat (first | apply yah | apply yai | apply yam)); exact yag (Kd.R_far (p := ⟨d2, 3, none⟩) (Kd.R_far (p := ⟨d2, 2, none⟩) (Kd.R_far (p := ⟨d2, 1, none⟩) (Kd.R_far (p := ⟨d2, 0, none⟩) (Kd.R_types f4.out a7.out (by decide)) (fun _ hk => hk.2) (.int .i64 (rd y104 e1))) (fun _ hk => hk.2) (.int .i64 (rd y112 e4))) (fun _ hk => hk.2) (.int .i64 (rd y120 e5))) (fun _ hk => hk.2) (.int .i64 (rd y128 e6))) (fun _ hk => by first | exact ⟨hk.1.1, ⟨hk.1.2.1, hk.1.2.2⟩⟩ | exact True.intro | exact hk.1 | exact hk.1.1 | exact hk.1.2.1 | exact hk.1.2.2 | exact hk.2)), fun _ => ⟨_, rfl⟩, fun _ => (by repeat (with_reducible first | exact HI0.out | apply yab | apply yac | apply yae | apply yad | refine yaf ?_ a4.out _)), fun _ => (by (repeat refine oneB ?_); refine blk_put (cs := #[.int .i64 (rd y104 e1), .int .i64 (rd y112 e4), .int .i64 (rd y120 e5), .int .i64 0]) ?_ 3 _ rfl; refine blk_put (cs := #[.int .i64 (rd y104 e1), .int .i64 (rd y112 e4), .int .i64 0, .int .i64 0]) ?_ 2 _ rfl; refine blk_put (cs := #[.int .i64 (rd y104 e1), .int .i64 0, .int .i64 0, .int .i64 0]) ?_ 1 _ rfl; refine blk_put (cs := #[.int .i64 0, .int .i64 0, .int .i64 0, .int .i64 0]) ?_ 0 _ rfl; exact upB a7.out), c7, c3, c6⟩
          exact steps_nil
         rintro b a w44 hall ⟨d0, a8, d1, a9, d3, b0, m7_, d5, d6, ha, b2, b3, e3, Q_HK, Q_HB, c2, b1, a2, c1, b9, b6, a3, b7, b4, b8, a5, a6, c0, c7, c3, c6⟩; clear a7 HB HI0 HK b5; have hb3_ := hall 3 (by kernel_rfl); have hb4_ := hall 4 (by kernel_rfl); have hb6_ := hall 6 (by kernel_rfl); have hb7_ := hall 7 (by kernel_rfl); have hb8_ := hall 8 (by kernel_rfl); have hb11_ := hall 11 (by kernel_rfl); have hb12_ := hall 12 (by kernel_rfl); have hb14_ := hall 14 (by kernel_rfl); have hb15_ := hall 15 (by kernel_rfl); have hb16_ := hall 16 (by kernel_rfl); have hb18_ := hall 18 (by kernel_rfl); have hb19_ := hall 19 (by kernel_rfl); have hb21_ := hall 21 (by kernel_rfl); have hb22_ := hall 22 (by kernel_rfl); have hb23_ := hall 23 (by kernel_rfl); have hb24_ := hall 24 (by kernel_rfl); have hb25_ := hall 25 (by kernel_rfl); subst ha; obtain rfl := c7 hb7_; obtain rfl := c3 hb15_; obtain rfl := c6 hb22_
         simp only [putSel, hb3_, hb4_, hb6_, hb7_, hb8_, hb11_, hb12_, hb14_, hb15_, hb16_, hb18_, hb19_, hb21_, hb22_, hb23_, hb24_, hb25_, if_true, Act.put, List.setIfInBounds_toArray, List.set_cons_zero, List.set_cons_succ]
         have b5 := yaa b2; clear b2; clear b3; clear e3; have HK := yaa Q_HK; clear Q_HK; have HB := yaa Q_HB; clear Q_HB; clear c2; have f2 := yaa (b1 hb4_); clear b1; have d8 := yaa (a2 hb4_); clear a2; clear c1; clear b9; have f3 := yaa (b6 hb12_); clear b6; have d9 := yaa (a3 hb12_); clear a3; clear b7; clear b4; have f4 := yaa (b8 hb19_); clear b8; have e0 := yaa (a5 hb19_); clear a5; have HI0 := yaa (a6 hb21_); clear a6; have a7 := yaa (c0 hb25_); clear c0; clear hall hb3_ hb4_ hb6_ hb7_ hb8_ hb11_ hb12_ hb14_ hb15_ hb16_ hb18_ hb19_ hb21_ hb22_ hb23_ hb24_ hb25_; obtain ⟨l6, j9⟩ := d8.out; clear d8; subst j9; obtain ⟨l7, k0⟩ := d9.out; clear d9; subst k0; obtain ⟨l8, k1⟩ := e0.out; clear e0; subst k1
         try go_wp2
         refine bodyPost_ret (results_cell_row rfl _ _ d2 36 #[.int .i64 (rd y104 e1), .int .i64 (rd y112 e4), .int .i64 (rd y120 e5), .int .i64 (rd y128 e6)] (0, 0) _ rfl (upB a7.out) Try.underlying36 rfl (by kernel_rfl)) rfl ?_
         exact ⟨by first | rfl | (simp [*, errW_none, errW_some] <;> rfl), by repeat (with_reducible first | exact HI0.out | apply yab | apply yac | apply yae | apply yad | refine yaf ?_ a4.out _), by repeat (with_reducible first | exact HB.out | apply yar | apply yak | apply yap | refine yal ?_ (Aside0.out ‹_›) | refine yal ?_ (IsS86.ge HI0.out)), by repeat (with_reducible first | exact HK.out | apply yaj | apply yan | apply yas | apply yao | refine yau ?_ d4.out _)⟩
        ·
         rw [if_neg c17] at H
         exact absurd H (by simp)
       ·
        rw [if_neg c16] at H
        exact absurd H (by simp)
      ·
       rw [if_neg c13] at H
       exact absurd H (by simp)
     ·
      rw [if_neg c12] at H
      exact absurd H (by simp)
    ·
     rw [if_neg c9] at H
     exact absurd H (by simp)
   ·
    rw [if_neg c8] at H
    exact absurd H (by simp)
  ·
   rw [if_neg c5] at H
   exact absurd H (by simp)
 ·
  rw [if_neg c4] at H
  exact absurd H (by simp)
end
section
def spec_l20Rd_odd.f (k : Nat) (s0_0 : List Int) (s0_1 : Int) (a1 : Int) : Option (Bool × Int) := if a1 > 0 then ((spec_l20Rd_pick.f k s0_0 s0_1 a1).bind fun bt101 => (some ((bt101.1 == (wrap64 (a1 - 1))), bt101.2))) else (some (false, s0_1))
set_option maxHeartbeats 8000000 in
set_option maxRecDepth 100000 in
theorem spec_l20Rd_odd.calls (k : Nat) (g : Nat) (s0_0 : List Int) (s0_1 : Int) (a1 : Int) (r1 : Bool) (r2 : Int) (w0 w : World) (hI : IsS86 w0 w g s0_0 s0_1) (hB : Below w0.heap.size w0 w) (h : spec_l20Rd_odd.f k s0_0 s0_1 a1 = some (r1, r2)) :
    Calls Try.prog 58 #[.pointer (some ⟨g, 0, none⟩), .int .i64 a1] w fun e w' => e = .returned (.bool r1) ∧ IsS86 w0 w' g s0_0 r2 ∧ Below w0.heap.size w0 w' ∧ KeepBut w w' g none := by
  have HI0 := Aside0.mk hI; have HK := Aside0.mk (KeepBut.refl w g none); have HL := Aside0.mk hB.size; clear hI; have HW0 := Aside0.mk hB.size; have HB := Aside0.mk hB; clear hB; have H : (if a1 > 0 then ((spec_l20Rd_pick.f k s0_0 s0_1 a1).bind fun bt101 => (some ((bt101.1 == (wrap64 (a1 - 1))), bt101.2))) else (some (false, s0_1))) = some (r1, r2) := h; clear h
  by_cases c3 : a1 > 0
  · rw [if_pos c3] at H
    have c3b0 : decide (0 < a1) = true := decide_eq_true c3; clear c3; obtain ⟨⟨t101, t102⟩, A4, H⟩ := bindA H; (try dsimp only at H)
    simp only [Option.some.injEq, Prod.mk.injEq] at H
    obtain ⟨rfl, rfl⟩ := H
    go_enter Try.func58, Try.ntmps58
    go_wp2_with (first | (go_at_call 44; (with_reducible refine (spec_l20Rd_pick.calls k g s0_0 s0_1 a1 t101 t102 w0 _ ?side1 ?side2 A4.out).mono ?_); (case side1 => repeat (with_reducible first | exact HI0.out | apply IsS86.alloc | apply IsS86.drewN | apply IsS86.drew | apply IsS86.set_1)); (case side2 => repeat (with_reducible first | exact HB.out | apply below_alloc | apply pw_below_drewN | apply below_drew1 | refine below_set ?_ (IsS86.ge HI0.out))); rintro e w5 ⟨rfl, hi, hb, hk⟩; replace HK := Aside0.mk (KeepBut.trans (by repeat (with_reducible first | exact HK.out | apply KeepBut.set_ | apply keep_drewN | apply keep_drew | apply keep_alloc)) hk (.inl rfl)); replace HB := Aside0.mk (hb); replace HI0 := Aside0.mk (hi); (try clear hb hk hi)))
    go_ret
    exact ⟨by first | rfl | (simp [*, errW_none, errW_some] <;> rfl), by repeat (with_reducible first | exact HI0.out | apply IsS86.alloc | apply IsS86.drewN | apply IsS86.drew | apply IsS86.set_1), by repeat (with_reducible first | exact HB.out | apply below_alloc | apply pw_below_drewN | apply below_drew1 | refine below_set ?_ (IsS86.ge HI0.out)), by repeat (with_reducible first | exact HK.out | apply KeepBut.set_ | apply keep_drewN | apply keep_drew | apply keep_alloc)⟩
  · rw [if_neg c3] at H
    have c3b0 : decide (0 < a1) = false := decide_eq_false c3; clear c3
    simp only [Option.some.injEq, Prod.mk.injEq] at H
    obtain ⟨rfl, rfl⟩ := H
    go_enter Try.func58, Try.ntmps58
    go_wp2
    go_ret
    exact ⟨by first | rfl | (simp [*, errW_none, errW_some] <;> rfl), by repeat (with_reducible first | exact HI0.out | apply IsS86.alloc | apply IsS86.drewN | apply IsS86.drew | apply IsS86.set_1), by repeat (with_reducible first | exact HB.out | apply below_alloc | apply pw_below_drewN | apply below_drew1 | refine below_set ?_ (IsS86.ge HI0.out)), by repeat (with_reducible first | exact HK.out | apply KeepBut.set_ | apply keep_drewN | apply keep_drew | apply keep_alloc)⟩
end
end Go.Proofs.Ytoifpgkfpdeglaa.X
