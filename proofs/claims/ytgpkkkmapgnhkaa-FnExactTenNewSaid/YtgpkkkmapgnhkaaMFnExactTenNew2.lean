/- Lemmas and contracts for the law FnExactTenNew, part 2: of the program's functions, and over data alone. No condition. -/
import Derived.Test.YtgpkkkmapgnhkaaMFnExactTenNew1
import Derived.Test.YtgpkkkmapgnhkaaProg
import Derived.Below
import Derived.Deep.Draws
import Derived.Deep.AppendLies
import Derived.Maps.AppendAt
import Derived.OwnWalk
import Derived.Laws.BytesArg
import Derived.Laws.MakeOwn
import Derived.Laws.OwnMore
import Derived.Deep.OwnRows
import Derived.Tactics
import Derived.Lib.ConvBytes
import Derived.Laws.Slices
import Derived.WalkKit
import Derived.KernelRfl
import Derived.RowKit3
import Derived.Deep.LoopGhost
import Derived.Deep.QuietTactic
import Derived.BigQuiet
import Derived.WideLaws
import Derived.Deep.DeepCutAuto
import Derived.Deep.CutBlock
import Derived.Deep.RegionHeld3
import Derived.Laws.Rows
import Derived.Lib.AppendStr
import Derived.ArgAppend
import Derived.Laws.IdiomCopy
import Derived.OrdersHeld
import Derived.Laws.BitsLemmas
import Derived.RowKit
namespace Go.Proofs.YtgpkkkmapgnhkaaW.PrintLast
open Go.RowKit Go.Proofs.YtgpkkkmapgnhkaaW.PrintWords
variable {P : Program} {ops : Array Oper} {Q : Exit → Act → World → Prop} {S : World → Prop} {ds : List Nat}
theorem pz_ {T : Bool × List (List Nat × List Nat)} {oi : Oper} {v : Value} {fuel : Nat} {l : Array Bool} {a : Act} {w : World} (i d : Nat) (l' : Array Bool) (hT : Aside0 (rtab .any ops = T)) (hc : anyT T l.toList l'.toList i = true) {a' : Act}
    (h : wpAnyLast P .any ops Q S ds fuel l' a' w)
    (hi : ops[i]? = some oi := by rfl) (hN : oi.dst = some d := by rfl) (hw : Region.wanted oi (yielded ops a.tmps) = true := by rfl)
    (hy : ∀ w', (execOp a.eval oi).run P w' = .ok (.value v) w' := by (intro w'; go_simp; with_reducible rfl))
    (ha : a.put (some d) v = a' := by (simp only [Act.put, List.setIfInBounds_toArray, List.set_cons_zero, List.set_cons_succ, i64_w, i32_w]; rfl))
    (hQ : ∀ c a w, Q (.panic c) (a.put oi.dst v) w → Q (.panic c) a w := by exact fun _ _ _ h => h) :
    wpAnyLast P .any ops Q S ds (fuel + 1) l a w :=
  pure_ l' hi hN (any_of hT.out hc) hQ (Or.inl ⟨hw, hy⟩) ha h
theorem tz_ {T : Bool × List (List Nat × List Nat)} {B : List Nat} {oi : Oper} {v : Value} {fuel : Nat} {l : Array Bool} {a : Act} {w : World} (i d : Nat) (l' : Array Bool) (hT : Aside0 (rtab .any ops = T)) (hB : Aside0 (waitsOk T.2 B = true)) (hc : takeW T B ds l.toList l'.toList i = true) (hS : S w) {a' : Act}
    (h : wpAnyLast P .any ops Q S ds fuel l' a' w)
    (hi : ops[i]? = some oi := by rfl) (hN : oi.dst = some d := by rfl) (hw : Region.wanted oi (yielded ops a.tmps) = true := by rfl)
    (hy : ∀ w', S w' → (execOp a.eval oi).run P w' = .ok (.value v) w' := by (intro w' hs; go_simp; with_reducible rfl))
    (ha : a.put (some d) v = a' := by (simp only [Act.put, List.setIfInBounds_toArray, List.set_cons_zero, List.set_cons_succ, i64_w, i32_w]; rfl))
    (hQ : ∀ c a w, Q (.panic c) (a.put oi.dst v) w → Q (.panic c) a w := by exact fun _ _ _ h => h) :
    wpAnyLast P .any ops Q S ds (fuel + 1) l a w :=
  take_ l' hi hN (take_ofW hT.out hB.out hc) hQ (Or.inl ⟨hw, hy⟩) hS ha h
class UpW (w w' : World) : Prop where
  step : ∀ K : World → Prop, (∀ v O, K v → K (v.alloc O)) → (∀ v, K v → K v.drew) → (∀ v n, K v → K (v.drewN n)) → K w → K w'
instance upw_refl (w : World) : UpW w w := ⟨fun _ _ _ _ h => h⟩
instance upw_alloc (w w' : World) (O : Obj) [h : UpW w w'] : UpW w (w'.alloc O) := ⟨fun K a b c k => a _ _ (h.step K a b c k)⟩
instance upw_drew (w w' : World) [h : UpW w w'] : UpW w w'.drew := ⟨fun K a b c k => b _ (h.step K a b c k)⟩
instance upw_drewN (w w' : World) (n : Nat) [h : UpW w w'] : UpW w (w'.drewN n) := ⟨fun K a b c k => c _ _ (h.step K a b c k)⟩
theorem upB {w w' : World} {g : Nat} {o : Obj} (h : w.heap[g]? = some o) [u : UpW w w'] : w'.heap[g]? = some o := u.step (fun v => v.heap[g]? = some o) (fun _ O k => blk_alloc k O) (fun _ k => blk_drew k) (fun _ n k => blk_drewN k n) h
theorem upR {α : Type} {d : Kd α} {e base : Nat} {ok : Nat → Prop} {w w' : World} {v : Value} {xs : List α} (h : d.R e w base ok v xs) [u : UpW w w'] : d.R e w' base ok v xs := u.step (fun x => d.R e x base ok v xs) (fun _ O k => Kd.R_alloc k O) (fun _ k => Kd.R_drew k) (fun _ n k => Kd.R_drewN k n) h
theorem upH {w0 w w' : World} (h : Below w0.heap.size w0 w) [u : UpW w w'] : Below w0.heap.size w0 w' := u.step (fun x => Below w0.heap.size w0 x) (fun _ O k => below_alloc k O) (fun _ k => below_drew1 k) (fun _ n k => pw_below_drewN k n) h
class OneW (w : outParam World) (w' : World) : Prop where
  up : UpW w w'
instance onew_alloc (w : World) (O : Obj) : OneW w (w.alloc O) := ⟨inferInstance⟩
instance onew_drew (w : World) : OneW w w.drew := ⟨inferInstance⟩
instance onew_drewN (w : World) (n : Nat) : OneW w (w.drewN n) := ⟨inferInstance⟩
theorem oneB {w w' : World} {g : Nat} {o : Obj} (h : w.heap[g]? = some o) [u : OneW w w'] : w'.heap[g]? = some o := @upB _ _ _ _ h u.up
section
variable {w : World} {g t : Nat} {a b c d e f i j k : Value}
theorem cc3_ (h : w.heap[g]? = some (.cells #[a, b, c] t (0, 0))) : w.cell? ⟨g, 0, none⟩ = some a ∧ w.cell? ⟨g, 1, none⟩ = some b ∧ w.cell? ⟨g, 2, none⟩ = some c := ⟨(blk_cell h 0).trans rfl, (blk_cell h 1).trans rfl, (blk_cell h 2).trans rfl⟩
theorem cc4_ (h : w.heap[g]? = some (.cells #[a, b, c, d] t (0, 0))) : w.cell? ⟨g, 0, none⟩ = some a ∧ w.cell? ⟨g, 1, none⟩ = some b ∧ w.cell? ⟨g, 2, none⟩ = some c ∧ w.cell? ⟨g, 3, none⟩ = some d := ⟨(blk_cell h 0).trans rfl, (blk_cell h 1).trans rfl, (blk_cell h 2).trans rfl, (blk_cell h 3).trans rfl⟩
theorem cc5_ (h : w.heap[g]? = some (.cells #[a, b, c, d, e] t (0, 0))) : w.cell? ⟨g, 0, none⟩ = some a ∧ w.cell? ⟨g, 1, none⟩ = some b ∧ w.cell? ⟨g, 2, none⟩ = some c ∧ w.cell? ⟨g, 3, none⟩ = some d ∧ w.cell? ⟨g, 4, none⟩ = some e := ⟨(blk_cell h 0).trans rfl, (blk_cell h 1).trans rfl, (blk_cell h 2).trans rfl, (blk_cell h 3).trans rfl, (blk_cell h 4).trans rfl⟩
theorem cc7_ (h : w.heap[g]? = some (.cells #[a, b, c, d, e, f, i] t (0, 0))) : w.cell? ⟨g, 0, none⟩ = some a ∧ w.cell? ⟨g, 1, none⟩ = some b ∧ w.cell? ⟨g, 2, none⟩ = some c ∧ w.cell? ⟨g, 3, none⟩ = some d ∧ w.cell? ⟨g, 4, none⟩ = some e ∧ w.cell? ⟨g, 5, none⟩ = some f ∧ w.cell? ⟨g, 6, none⟩ = some i := ⟨(blk_cell h 0).trans rfl, (blk_cell h 1).trans rfl, (blk_cell h 2).trans rfl, (blk_cell h 3).trans rfl, (blk_cell h 4).trans rfl, (blk_cell h 5).trans rfl, (blk_cell h 6).trans rfl⟩
theorem cc8_ (h : w.heap[g]? = some (.cells #[a, b, c, d, e, f, i, j] t (0, 0))) : w.cell? ⟨g, 0, none⟩ = some a ∧ w.cell? ⟨g, 1, none⟩ = some b ∧ w.cell? ⟨g, 2, none⟩ = some c ∧ w.cell? ⟨g, 3, none⟩ = some d ∧ w.cell? ⟨g, 4, none⟩ = some e ∧ w.cell? ⟨g, 5, none⟩ = some f ∧ w.cell? ⟨g, 6, none⟩ = some i ∧ w.cell? ⟨g, 7, none⟩ = some j := ⟨(blk_cell h 0).trans rfl, (blk_cell h 1).trans rfl, (blk_cell h 2).trans rfl, (blk_cell h 3).trans rfl, (blk_cell h 4).trans rfl, (blk_cell h 5).trans rfl, (blk_cell h 6).trans rfl, (blk_cell h 7).trans rfl⟩
variable {cs : Array Value}
theorem cf2_ (h : w.heap[g]? = some (.cells cs t (0, 0))) : w.frozen? ⟨g, 0, none⟩ = false ∧ w.frozen? ⟨g, 1, none⟩ = false := ⟨blk_frozen h 0, blk_frozen h 1⟩
theorem cf3_ (h : w.heap[g]? = some (.cells cs t (0, 0))) : w.frozen? ⟨g, 0, none⟩ = false ∧ w.frozen? ⟨g, 1, none⟩ = false ∧ w.frozen? ⟨g, 2, none⟩ = false := ⟨blk_frozen h 0, blk_frozen h 1, blk_frozen h 2⟩
theorem cf4_ (h : w.heap[g]? = some (.cells cs t (0, 0))) : w.frozen? ⟨g, 0, none⟩ = false ∧ w.frozen? ⟨g, 1, none⟩ = false ∧ w.frozen? ⟨g, 2, none⟩ = false ∧ w.frozen? ⟨g, 3, none⟩ = false := ⟨blk_frozen h 0, blk_frozen h 1, blk_frozen h 2, blk_frozen h 3⟩
theorem cf5_ (h : w.heap[g]? = some (.cells cs t (0, 0))) : w.frozen? ⟨g, 0, none⟩ = false ∧ w.frozen? ⟨g, 1, none⟩ = false ∧ w.frozen? ⟨g, 2, none⟩ = false ∧ w.frozen? ⟨g, 3, none⟩ = false ∧ w.frozen? ⟨g, 4, none⟩ = false := ⟨blk_frozen h 0, blk_frozen h 1, blk_frozen h 2, blk_frozen h 3, blk_frozen h 4⟩
theorem cf6_ (h : w.heap[g]? = some (.cells cs t (0, 0))) : w.frozen? ⟨g, 0, none⟩ = false ∧ w.frozen? ⟨g, 1, none⟩ = false ∧ w.frozen? ⟨g, 2, none⟩ = false ∧ w.frozen? ⟨g, 3, none⟩ = false ∧ w.frozen? ⟨g, 4, none⟩ = false ∧ w.frozen? ⟨g, 5, none⟩ = false := ⟨blk_frozen h 0, blk_frozen h 1, blk_frozen h 2, blk_frozen h 3, blk_frozen h 4, blk_frozen h 5⟩
theorem cf7_ (h : w.heap[g]? = some (.cells cs t (0, 0))) : w.frozen? ⟨g, 0, none⟩ = false ∧ w.frozen? ⟨g, 1, none⟩ = false ∧ w.frozen? ⟨g, 2, none⟩ = false ∧ w.frozen? ⟨g, 3, none⟩ = false ∧ w.frozen? ⟨g, 4, none⟩ = false ∧ w.frozen? ⟨g, 5, none⟩ = false ∧ w.frozen? ⟨g, 6, none⟩ = false := ⟨blk_frozen h 0, blk_frozen h 1, blk_frozen h 2, blk_frozen h 3, blk_frozen h 4, blk_frozen h 5, blk_frozen h 6⟩
theorem cf8_ (h : w.heap[g]? = some (.cells cs t (0, 0))) : w.frozen? ⟨g, 0, none⟩ = false ∧ w.frozen? ⟨g, 1, none⟩ = false ∧ w.frozen? ⟨g, 2, none⟩ = false ∧ w.frozen? ⟨g, 3, none⟩ = false ∧ w.frozen? ⟨g, 4, none⟩ = false ∧ w.frozen? ⟨g, 5, none⟩ = false ∧ w.frozen? ⟨g, 6, none⟩ = false ∧ w.frozen? ⟨g, 7, none⟩ = false := ⟨blk_frozen h 0, blk_frozen h 1, blk_frozen h 2, blk_frozen h 3, blk_frozen h 4, blk_frozen h 5, blk_frozen h 6, blk_frozen h 7⟩
end
theorem upc_ {w w' : World} {a : Addr} {v : Value} (hb : Below w.heap.size w w') (h : w.cell? a = some v) : w'.cell? a = some v := (hb.cell (World.block_lt_of_cell? w _ h)).trans h
theorem bindA {α β : Type} {x : Option α} {f : α → Option β} {r : β} (H : x.bind f = some r) : ∃ a, Aside0 (x = some a) ∧ f a = some r := by
  obtain ⟨a, h, k⟩ := Option.bind_eq_some_iff.mp H
  exact ⟨a, ⟨h⟩, k⟩
section
variable {P : Program} {ops : Array Oper} {rest : List Oper} {o : Oper} {a : Act} {Q : Exit → Act → World → Prop}
theorem bx_ {W : World} (N : Tmp) (hd : o.dst = some N) (cs : Array Value) (t : TypeId)
    (h : ∀ g, g = W.heap.size → ∀ w1, w1.heap[g]? = some (.cells cs t (0, 0)) → Below W.heap.size W w1 → wpList P ops Q rest (a.put o.dst (.pointer (some ⟨g, 0, none⟩))) w1)
    (hg : o.guard = none := by first | rfl | (simp [Region.wanted, yielded, *]; done))
    (hr : (execOp a.eval o).run P W = .ok (.value (.pointer (some ⟨W.heap.size, 0, none⟩))) (W.alloc (.cells cs t (0, 0))) := by first | (go_simp; done) | (go_simp; rfl)) : wpList P ops Q (o :: rest) a W := box_event hg hd hr h
theorem gc_ (f : FuncId) {W : World} {as1 : Array Operand} {ts : Array TypeId} (_ho : o.op = .call { callee := .value (.func f), args := as1, argTypes := ts }) (h : wpList P ops Q (o :: rest) a W) : wpList P ops Q (o :: rest) a W := h
theorem gd_ (N : Tmp) {W : World} (_hN : o.dst = some N) (h : wpList P ops Q (o :: rest) a W) : wpList P ops Q (o :: rest) a W := h
theorem gl_ {w : World} (N : Option Tmp) (hd : o.dst = N) {f : FuncId} {fn : Func} {aa : Array Operand} {ts : Array TypeId} (hf : P.funcs[f]? = some fn) (args : Array Value)
    (h : Calls P f args w fun e w' => ∃ v, e = .returned v ∧ wpList P ops Q rest (a.put N v) w') (hg : o.guard = none := by rfl) (hname : (fn.name == "runtime.NumGoroutine") = false := by kernel_rfl) (hb : fn.body.isSome = true := by rfl)
    (hop : o.op = .call { callee := .value (.func f), args := aa, argTypes := ts } := by rfl) (hargs : aa.map a.eval = args := by ((try simp only [List.map_toArray, List.map_cons, List.map_nil]); first | done | rfl | (simp only [List.length_drop, List.length_take]; rfl))) : wpList P ops Q (o :: rest) a w :=
  goesL_ N hd hg hf hname hb args hop hargs h
end
end Go.Proofs.YtgpkkkmapgnhkaaW.PrintLast
namespace Go.Proofs.Ytgpkkkmapgnhkaa.X
open Go.RowKit Go.Proofs.YtgpkkkmapgnhkaaW.PrintWords Go.Proofs.YtgpkkkmapgnhkaaW.PrintLast Go.Proofs.YtgpkkkmapgnhkaaW.PrintMore
attribute [local go_sem] max2_int min2_int max_two min_two max_three min_three max_four min_four
set_option linter.unusedVariables false
set_option linter.unusedSimpArgs false
section
def errW : Option Int → Value
  | none => .nilIface
  | some c => .iface 0 (.int .i64 c)
theorem errW_none : errW none = .nilIface := rfl
theorem errW_some (c : Int) : errW (some c) = .iface 0 (.int .i64 c) := rfl
theorem info5 : (Try.prog.info? 5).map (fun i => (i.zero, i.size, i.bytes)) = some (some (.int .u8 0), 1, 1) := by kernel_rfl
structure S24 where
  f0 : (List Int)
  f1 : Int
  f2 : Int
  f3 : Int
  f4 : Int
  f5 : Int
  f6 : Int
def z24 : S24 := ⟨([] : List Int), (0 : Int), (0 : Int), (0 : Int), (0 : Int), (0 : Int), (0 : Int)⟩
def rd_T24 (xs : List S24) (i : Int) : S24 := xs.getD i.toNat z24
structure S148 where
  f0 : Int
  f1 : Int
  f2 : Int
  f3 : Int
  f4 : Int
structure S146 where
  f0 : Int
  f1 : Int
  f2 : Int
  f3 : Int
  f4 : Int
def z146 : S146 := ⟨(0 : Int), (0 : Int), (0 : Int), (0 : Int), (0 : Int)⟩
def k146 : Kd S146 := Kd.iso (Kd.pair (Kd.int .i64) (Kd.pair (Kd.int .i64) (Kd.pair (Kd.int .i64) (Kd.pair (Kd.int .i64) (Kd.int .i64))))) (fun x : S146 => (x.f0, x.f1, x.f2, x.f3, x.f4))
theorem k146_open {w : World} {x : S146} {cs : List Value} (h : k146.K w x cs) : cs = [.int .i64 x.f0, .int .i64 x.f1, .int .i64 x.f2, .int .i64 x.f3, .int .i64 x.f4] := by
  obtain ⟨_, _, rfl, rfl, ⟨_, _, rfl, rfl, ⟨_, _, rfl, rfl, ⟨_, _, rfl, rfl, rfl⟩⟩⟩⟩ := h
  exact rfl
def rd_T146 (xs : List S146) (i : Int) : S146 := xs.getD i.toNat z146
theorem at_T146 {w : World} {A : Option Addr} {n : Nat} {xs : List S146} (h : Kd.C k146 w A n xs) (i : Int) (h0 : 0 ≤ i) (h1 : i < n) : ∃ ad , A = some ad ∧ w.cell? (ad.add (i.toNat * 5)) = some (.int .i64 (rd_T146 xs i).f0) ∧ w.cell? ⟨(ad.add (i.toNat * 5)).block, (ad.add (i.toNat * 5)).off + 1, none⟩ = some (.int .i64 (rd_T146 xs i).f1) ∧ w.cell? ⟨(ad.add (i.toNat * 5)).block, (ad.add (i.toNat * 5)).off + 2, none⟩ = some (.int .i64 (rd_T146 xs i).f2) ∧ w.cell? ⟨(ad.add (i.toNat * 5)).block, (ad.add (i.toNat * 5)).off + 3, none⟩ = some (.int .i64 (rd_T146 xs i).f3) ∧ w.cell? ⟨(ad.add (i.toNat * 5)).block, (ad.add (i.toNat * 5)).off + 4, none⟩ = some (.int .i64 (rd_T146 xs i).f4) := by
  obtain ⟨ad, c, e, _, hK, hc0⟩ := Kd.C_get h z146 i h0 h1
  have hc : ∀ j u, c[j]? = some u → w.cell? (ad.add (i.toNat * 5 + j)) = some u := hc0
  obtain rfl := k146_open hK
  exact ⟨ad, e, hc 0 _ rfl, by rw [← add_field _ _ 1 (by omega)]; exact hc 1 _ rfl, by rw [← add_field _ _ 2 (by omega)]; exact hc 2 _ rfl, by rw [← add_field _ _ 3 (by omega)]; exact hc 3 _ rfl, by rw [← add_field _ _ 4 (by omega)]; exact hc 4 _ rfl⟩
structure S110 where
  f0 : Int
  f1 : ByteArray
  f2 : Int
  f3 : (List Int)
  f4 : Int
structure S112 where
  f0 : Int
  f1 : S110
structure S113 where
  f0 : Int
  f1 : ByteArray
  f2 : Int
  f3 : (List Int)
  f4 : Int
structure S115 where
  f0 : Int
  f1 : S113
structure S124 where
  f0 : Int
  f1 : ByteArray
  f2 : (List S146)
  f3 : Int
def z124 : S124 := ⟨(0 : Int), (⟨#[]⟩ : ByteArray), ([] : List S146), (0 : Int)⟩
def k124 : Kd S124 := Kd.iso (Kd.pair (Kd.int .i64) (Kd.pair Kd.string (Kd.pair (Kd.slice 146 k146) (Kd.int .i64)))) (fun x : S124 => (x.f0, x.f1, x.f2, x.f3))
theorem k124_open {w : World} {x : S124} {cs : List Value} (h : k124.K w x cs) : ∃ A2 c2, cs = [.int .i64 x.f0, .string x.f1, .slice A2 x.f2.length c2, .int .i64 x.f3] ∧ x.f2.length ≤ c2 ∧ k146.C w A2 x.f2.length x.f2 := by
  obtain ⟨_, _, rfl, rfl, ⟨_, _, rfl, rfl, ⟨_, _, rfl, ⟨A2, c2, rfl, l2, g2⟩, rfl⟩⟩⟩ := h
  exact ⟨A2, c2, rfl, l2, g2⟩
def rd_T124 (xs : List S124) (i : Int) : S124 := xs.getD i.toNat z124
theorem at_T124 {w : World} {A : Option Addr} {n : Nat} {xs : List S124} (h : Kd.C k124 w A n xs) (i : Int) (h0 : 0 ≤ i) (h1 : i < n) : ∃ ad A2 c2, A = some ad ∧ w.cell? (ad.add (i.toNat * 4)) = some (.int .i64 (rd_T124 xs i).f0) ∧ w.cell? ⟨(ad.add (i.toNat * 4)).block, (ad.add (i.toNat * 4)).off + 1, none⟩ = some (.string (rd_T124 xs i).f1) ∧ w.cell? ⟨(ad.add (i.toNat * 4)).block, (ad.add (i.toNat * 4)).off + 2, none⟩ = some (.slice A2 (rd_T124 xs i).f2.length c2) ∧ w.cell? ⟨(ad.add (i.toNat * 4)).block, (ad.add (i.toNat * 4)).off + 3, none⟩ = some (.int .i64 (rd_T124 xs i).f3) ∧ (rd_T124 xs i).f2.length ≤ c2 ∧ k146.C w A2 (rd_T124 xs i).f2.length (rd_T124 xs i).f2 := by
  obtain ⟨ad, c, e, _, hK, hc0⟩ := Kd.C_get h z124 i h0 h1
  have hc : ∀ j u, c[j]? = some u → w.cell? (ad.add (i.toNat * 4 + j)) = some u := hc0
  obtain ⟨A2, c2, rfl, l2, g2⟩ := k124_open hK
  exact ⟨ad, A2, c2, e, hc 0 _ rfl, by rw [← add_field _ _ 1 (by omega)]; exact hc 1 _ rfl, by rw [← add_field _ _ 2 (by omega)]; exact hc 2 _ rfl, by rw [← add_field _ _ 3 (by omega)]; exact hc 3 _ rfl, l2, g2⟩
structure S156 where
  f0 : ByteArray
  f1 : Int
  f2 : (List Int)
def z156 : S156 := ⟨(⟨#[]⟩ : ByteArray), (0 : Int), ([] : List Int)⟩
def k156 : Kd S156 := Kd.iso (Kd.pair Kd.string (Kd.pair (Kd.int .i64) (Kd.slice 5 (Kd.int .u8)))) (fun x : S156 => (x.f0, x.f1, x.f2))
theorem k156_open {w : World} {x : S156} {cs : List Value} (h : k156.K w x cs) : ∃ A2 c2, cs = [.string x.f0, .int .i64 x.f1, .slice A2 x.f2.length c2] ∧ x.f2.length ≤ c2 ∧ (Kd.int .u8).C w A2 x.f2.length x.f2 := by
  obtain ⟨_, _, rfl, rfl, ⟨_, _, rfl, rfl, ⟨A2, c2, rfl, l2, g2⟩⟩⟩ := h
  exact ⟨A2, c2, rfl, l2, g2⟩
def rd_T156 (xs : List S156) (i : Int) : S156 := xs.getD i.toNat z156
theorem at_T156 {w : World} {A : Option Addr} {n : Nat} {xs : List S156} (h : Kd.C k156 w A n xs) (i : Int) (h0 : 0 ≤ i) (h1 : i < n) : ∃ ad A2 c2, A = some ad ∧ w.cell? (ad.add (i.toNat * 3)) = some (.string (rd_T156 xs i).f0) ∧ w.cell? ⟨(ad.add (i.toNat * 3)).block, (ad.add (i.toNat * 3)).off + 1, none⟩ = some (.int .i64 (rd_T156 xs i).f1) ∧ w.cell? ⟨(ad.add (i.toNat * 3)).block, (ad.add (i.toNat * 3)).off + 2, none⟩ = some (.slice A2 (rd_T156 xs i).f2.length c2) ∧ (rd_T156 xs i).f2.length ≤ c2 ∧ (Kd.int .u8).C w A2 (rd_T156 xs i).f2.length (rd_T156 xs i).f2 := by
  obtain ⟨ad, c, e, _, hK, hc0⟩ := Kd.C_get h z156 i h0 h1
  have hc : ∀ j u, c[j]? = some u → w.cell? (ad.add (i.toNat * 3 + j)) = some u := hc0
  obtain ⟨A2, c2, rfl, l2, g2⟩ := k156_open hK
  exact ⟨ad, A2, c2, e, hc 0 _ rfl, by rw [← add_field _ _ 1 (by omega)]; exact hc 1 _ rfl, by rw [← add_field _ _ 2 (by omega)]; exact hc 2 _ rfl, l2, g2⟩
structure S158 where
  f0 : Int
  f1 : Int
  f2 : (List Int)
def z158 : S158 := ⟨(0 : Int), (0 : Int), ([] : List Int)⟩
def k158 : Kd S158 := Kd.iso (Kd.pair (Kd.int .i64) (Kd.pair (Kd.int .i64) (Kd.slice 5 (Kd.int .u8)))) (fun x : S158 => (x.f0, x.f1, x.f2))
theorem k158_open {w : World} {x : S158} {cs : List Value} (h : k158.K w x cs) : ∃ A2 c2, cs = [.int .i64 x.f0, .int .i64 x.f1, .slice A2 x.f2.length c2] ∧ x.f2.length ≤ c2 ∧ (Kd.int .u8).C w A2 x.f2.length x.f2 := by
  obtain ⟨_, _, rfl, rfl, ⟨_, _, rfl, rfl, ⟨A2, c2, rfl, l2, g2⟩⟩⟩ := h
  exact ⟨A2, c2, rfl, l2, g2⟩
def rd_T158 (xs : List S158) (i : Int) : S158 := xs.getD i.toNat z158
theorem at_T158 {w : World} {A : Option Addr} {n : Nat} {xs : List S158} (h : Kd.C k158 w A n xs) (i : Int) (h0 : 0 ≤ i) (h1 : i < n) : ∃ ad A2 c2, A = some ad ∧ w.cell? (ad.add (i.toNat * 3)) = some (.int .i64 (rd_T158 xs i).f0) ∧ w.cell? ⟨(ad.add (i.toNat * 3)).block, (ad.add (i.toNat * 3)).off + 1, none⟩ = some (.int .i64 (rd_T158 xs i).f1) ∧ w.cell? ⟨(ad.add (i.toNat * 3)).block, (ad.add (i.toNat * 3)).off + 2, none⟩ = some (.slice A2 (rd_T158 xs i).f2.length c2) ∧ (rd_T158 xs i).f2.length ≤ c2 ∧ (Kd.int .u8).C w A2 (rd_T158 xs i).f2.length (rd_T158 xs i).f2 := by
  obtain ⟨ad, c, e, _, hK, hc0⟩ := Kd.C_get h z158 i h0 h1
  have hc : ∀ j u, c[j]? = some u → w.cell? (ad.add (i.toNat * 3 + j)) = some u := hc0
  obtain ⟨A2, c2, rfl, l2, g2⟩ := k158_open hK
  exact ⟨ad, A2, c2, e, hc 0 _ rfl, by rw [← add_field _ _ 1 (by omega)]; exact hc 1 _ rfl, by rw [← add_field _ _ 2 (by omega)]; exact hc 2 _ rfl, l2, g2⟩
structure S30 where
  f0 : (List Int)
  f1 : Int
  f2 : Int
  f3 : Int
  f4 : Int
  f5 : Int
  f6 : Int
structure S63 where
  f0 : Int
  f1 : Int
  f2 : Int
  f3 : Int
  f4 : (List S124)
  f5 : (List S156)
  f6 : (List ByteArray)
  f7 : (List S158)
def z63 : S63 := ⟨(0 : Int), (0 : Int), (0 : Int), (0 : Int), ([] : List S124), ([] : List S156), ([] : List ByteArray), ([] : List S158)⟩
def rd_T63 (xs : List S63) (i : Int) : S63 := xs.getD i.toNat z63
structure S165 where
  f0 : Int
  f1 : ByteArray
  f2 : (List S148)
  f3 : Int
structure S167 where
  f0 : ByteArray
  f1 : Int
  f2 : (List Int)
structure S169 where
  f0 : Int
  f1 : Int
  f2 : (List Int)
structure S83 where
  f0 : Int
  f1 : Int
  f2 : Int
  f3 : Int
  f4 : (List S165)
  f5 : (List S167)
  f6 : (List ByteArray)
  f7 : (List S169)
end
section
def laws_szByteS.f (l0 : List Int) (a1 : Int) : Option (Int) := if (wrap64 (a1 - (l0.length : Int))) < 0 then (some (-1)) else (some (wrap64 (a1 - (l0.length : Int))))
set_option maxHeartbeats 8000000 in
set_option maxRecDepth 100000 in
theorem laws_szByteS.calls (A0 : Option Addr) (c0 : Nat) (l0 : List Int) (a1 : Int) (r : Int) (w : World) (hr0 : Kd.C (Kd.int .u8) w A0 l0.length l0) (hc0 : l0.length ≤ c0) (h : laws_szByteS.f l0 a1 = some r) :
    Calls Try.prog 65 #[.slice A0 l0.length c0, .int .i64 a1] w fun e w' => e = .returned (.int .i64 r) ∧ Drawn0 w w' := by
  have HR0 := Aside0.mk hr0; have HC0 := Aside0.mk hc0; clear hr0 hc0; have H : (if (wrap64 (a1 - (l0.length : Int))) < 0 then (some (-1)) else (some (wrap64 (a1 - (l0.length : Int))))) = some r := h; clear h
  by_cases c3 : (wrap64 (a1 - (l0.length : Int))) < 0
  · rw [if_pos c3] at H
    have c3b0 : decide ((wrap64 (a1 - (l0.length : Int))) < 0) = true := decide_eq_true c3; clear c3; obtain rfl := Option.some.inj H
    go_enter Try.func65, Try.ntmps65
    go_wp2
    go_ret
    exact ⟨by first | rfl | (simp; done) | (simp [*]; done), by repeat (first | exact Drawn0.refl _ | apply Drawn0.step)⟩
  · rw [if_neg c3] at H
    have c3b0 : decide ((wrap64 (a1 - (l0.length : Int))) < 0) = false := decide_eq_false c3; clear c3; obtain rfl := Option.some.inj H
    go_enter Try.func65, Try.ntmps65
    go_wp2
    go_ret
    exact ⟨by first | rfl | (simp; done) | (simp [*]; done), by repeat (first | exact Drawn0.refl _ | apply Drawn0.step)⟩
end
section
def laws_szTenCfg.f (l0_0 : List Int) (a0_1 : Int) (a0_2 : Int) (a0_3 : Int) (a0_4 : Int) (a0_5 : Int) (a0_6 : Int) (a1 : Int) : Option (Int) := (laws_szByteS.f l0_0 a1).bind fun t102 => (if t102 < 0 then (some (-1)) else (some t102))
set_option maxHeartbeats 8000000 in
set_option maxRecDepth 100000 in
theorem laws_szTenCfg.calls (A0_0 : Option Addr) (c0_0 : Nat) (l0_0 : List Int) (a0_1 : Int) (a0_2 : Int) (a0_3 : Int) (a0_4 : Int) (a0_5 : Int) (a0_6 : Int) (a1 : Int) (r : Int) (w : World) (hr0_0 : Kd.C (Kd.int .u8) w A0_0 l0_0.length l0_0) (hc0_0 : l0_0.length ≤ c0_0) (h : laws_szTenCfg.f l0_0 a0_1 a0_2 a0_3 a0_4 a0_5 a0_6 a1 = some r) :
    Calls Try.prog 17 #[.agg #[.slice A0_0 l0_0.length c0_0, .int .i64 a0_1, .int .i64 a0_2, .int .i64 a0_3, .int .i64 a0_4, .int .i64 a0_5, .int .i64 a0_6], .int .i64 a1] w fun e w' => e = .returned (.int .i64 r) ∧ Below w.heap.size w w' := by
  have hu30 := Try.underlying30; have HR0_0 := Aside0.mk hr0_0; have HC0_0 := Aside0.mk hc0_0; clear hr0_0 hc0_0; have HB := Aside0.mk (Below.refl w.heap.size w); have H : ((laws_szByteS.f l0_0 a1).bind fun t102 => (if t102 < 0 then (some (-1)) else (some t102))) = some r := h; clear h; obtain ⟨t102, A3, H⟩ := bindA H; (try dsimp only at H)
  by_cases c4 : t102 < 0
  · rw [if_pos c4] at H
    have c4b0 : decide (t102 < 0) = true := decide_eq_true c4; clear c4; obtain rfl := Option.some.inj H
    go_enter Try.func17, Try.ntmps17
    go_wp2_with (first | ((with_reducible refine gd_ 2 rfl ?_); refine bx_ 2 rfl #[.slice A0_0 l0_0.length c0_0, .int .i64 a0_1, .int .i64 a0_2, .int .i64 a0_3, .int .i64 a0_4, .int .i64 a0_5, .int .i64 a0_6] 30 ?_; intro gb101 hg w5 hbox hb; have BK101 := Aside0.mk (hbox); have GW101 := Aside0.mk ((by rw [hg]; exact (below_size (upH HB.out)) : w.heap.size ≤ gb101)); replace HB := Aside0.mk (below_step (upH HB.out) hb); have GE101 := GW101; clear hb hbox hg; obtain ⟨hcz6_0, hcz6_1, hcz6_2, hcz6_3, hcz6_4, hcz6_5, hcz6_6⟩ := cc7_ BK101.out; obtain ⟨hfz6_0, hfz6_1, hfz6_2, hfz6_3, hfz6_4, hfz6_5⟩ := cf6_ BK101.out; have hfz6_6 := blk_frozen BK101.out 6) | ((with_reducible refine gc_ 65 rfl ?_); refine gl_ (some 8) rfl Try.func65 #[.slice A0_0 l0_0.length c0_0, .int .i64 a1] ?_; (with_reducible refine (laws_szByteS.calls _ _ l0_0 a1 t102 _ ?side1 ?side2 A3.out).mono ?_); (case side1 => repeat (first | exact (Kd.C_below HR0_0.out HB.out) | (with_reducible refine Kd.C_alloc ?_ _) | (with_reducible refine Kd.C_drewN ?_ _) | (with_reducible refine Kd.C_drew ?_))); (case side2 => exact HC0_0.out); rintro e w' ⟨rfl, ⟨nd, rfl⟩⟩; refine ⟨_, rfl, ?_⟩))
    go_ret
    exact ⟨by first | rfl | (simp [*, errW_none, errW_some] <;> rfl), by repeat (with_reducible first | exact HB.out | apply below_alloc | apply pw_below_drewN | apply below_drew1 | refine below_set ?_ (Aside0.out ‹_›))⟩
  · rw [if_neg c4] at H
    have c4b0 : decide (t102 < 0) = false := decide_eq_false c4; clear c4; obtain rfl := Option.some.inj H
    go_enter Try.func17, Try.ntmps17
    go_wp2_with (first | ((with_reducible refine gd_ 2 rfl ?_); refine bx_ 2 rfl #[.slice A0_0 l0_0.length c0_0, .int .i64 a0_1, .int .i64 a0_2, .int .i64 a0_3, .int .i64 a0_4, .int .i64 a0_5, .int .i64 a0_6] 30 ?_; intro gb101 hg w7 hbox hb; have BK101 := Aside0.mk (hbox); have GW101 := Aside0.mk ((by rw [hg]; exact (below_size (upH HB.out)) : w.heap.size ≤ gb101)); replace HB := Aside0.mk (below_step (upH HB.out) hb); have GE101 := GW101; clear hb hbox hg; obtain ⟨hcz8_0, hcz8_1, hcz8_2, hcz8_3, hcz8_4, hcz8_5, hcz8_6⟩ := cc7_ BK101.out; obtain ⟨hfz8_0, hfz8_1, hfz8_2, hfz8_3, hfz8_4, hfz8_5⟩ := cf6_ BK101.out; have hfz8_6 := blk_frozen BK101.out 6) | ((with_reducible refine gc_ 65 rfl ?_); refine gl_ (some 8) rfl Try.func65 #[.slice A0_0 l0_0.length c0_0, .int .i64 a1] ?_; (with_reducible refine (laws_szByteS.calls _ _ l0_0 a1 t102 _ ?side1 ?side2 A3.out).mono ?_); (case side1 => repeat (first | exact (Kd.C_below HR0_0.out HB.out) | (with_reducible refine Kd.C_alloc ?_ _) | (with_reducible refine Kd.C_drewN ?_ _) | (with_reducible refine Kd.C_drew ?_))); (case side2 => exact HC0_0.out); rintro e w' ⟨rfl, ⟨nd, rfl⟩⟩; refine ⟨_, rfl, ?_⟩))
    go_ret
    exact ⟨by first | rfl | (simp [*, errW_none, errW_some] <;> rfl), by repeat (with_reducible first | exact HB.out | apply below_alloc | apply pw_below_drewN | apply below_drew1 | refine below_set ?_ (Aside0.out ‹_›))⟩
end
section
def laws_toByteS.l0 : Nat → List Int → List Int → Int → Option (List Int)
 | 0, _, _, _ => none
 | k + 1, x0, x3, x4 => if x4 < (x0.length : Int) then (if 0 ≤ x4 then (if x4 < (x3.length : Int) then (laws_toByteS.l0 k x0 (x3.set (x4 : Int).toNat (rd x0 x4)) (wrap64 (x4 + 1))) else (none)) else (none)) else (some x3)
def laws_toByteS.f (k : Nat) (l0 : List Int) : Option (List Int) := if 0 ≤ (l0.length : Int) then (if ((l0.length : Int) : Int).toNat ≤ 281474976710656 then (laws_toByteS.l0 k l0 (List.replicate ((l0.length : Int) : Int).toNat 0) 0) else (none)) else (none)
set_option maxHeartbeats 8000000 in
set_option maxRecDepth 100000 in
theorem laws_toByteS.calls (k : Nat) (A0 : Option Addr) (c0 : Nat) (l0 : List Int) (r : List Int) (w : World) (hr0 : Kd.C (Kd.int .u8) w A0 l0.length l0) (hc0 : l0.length ≤ c0) (h : laws_toByteS.f k l0 = some r) :
  Calls Try.prog 66 #[.slice A0 l0.length c0] w fun e w' => ∃ v0_ : Value, e = .returned (v0_) ∧ Kd.R (Kd.int .u8) 5 w' w.heap.size (fun _ => True) v0_ r ∧ Below w.heap.size w w' := by
 have HR0 := Aside0.mk hr0; have HC0 := Aside0.mk hc0; clear hr0 hc0; have HB := Aside0.mk (Below.refl w.heap.size w); have H : (if 0 ≤ (l0.length : Int) then (if ((l0.length : Int) : Int).toNat ≤ 281474976710656 then (laws_toByteS.l0 k l0 (List.replicate ((l0.length : Int) : Int).toNat 0) 0) else (none)) else (none)) = some r := h; clear h
 by_cases c2 : 0 ≤ (l0.length : Int)
 rotate_left
 ·
  rw [if_neg c2] at H
  exact absurd H (by simp)
 rw [if_pos c2] at H
 have a6 := eq_true c2; replace c2 := decide_eq_true c2
 by_cases c3 : ((l0.length : Int) : Int).toNat ≤ 281474976710656
 rotate_left
 ·
  rw [if_neg c3] at H
  exact absurd H (by simp)
 rw [if_pos c3] at H
 have a7 := eq_true c3; replace c3 := decide_eq_true c3; obtain ⟨y101, hy101⟩ : ∃ y_ : List Int, y_ = (List.replicate ((l0.length : Int) : Int).toNat 0) := ⟨_, rfl⟩
 replace H : (laws_toByteS.l0 k l0 y101 0) = some r := by first | (rw [hy101]; with_reducible exact H) | (have H2_ := (Option.bind_some _ _).symm.trans H; rw [hy101]; with_reducible exact H2_) | (have H2_ := (Option.bind_some _ _).symm.trans H; with_reducible exact H2_) | with_reducible exact H | (rw [hy101]; exact H) | exact H
 have Ny101 := Aside0.mk hy101; clear hy101; have H' := Aside0.mk H; clear H
 go_enter Try.func66, Try.ntmps66
 go_wp2_with (first | ((with_reducible refine gd_ 7 rfl ?_); refine Kd.R_make (Kd.int .u8) _ 5 rfl (N := 7) rfl 22 _ _ rfl (l0.length : Int) rfl rfl Try.underlying22 (.int .u8 0) 1 info5 rfl (by decide) (by omega) 0 (ok := fun _ => True) (okp := fun _ => True) rfl (fun _ hk => hk) trivial (of_decide_eq_true (by assumption)) (Nat.le_trans (Nat.mul_le_mul_right _ (of_decide_eq_true (by assumption) : (l0.length : Int).toNat ≤ 281474976710656)) (by omega)) (Below.refl _ _) (Nat.le_refl _) ?_; intro a8 w4 ho5 hb hg_ hnew_; clear hg_ hnew_; (first | rw [← Ny101.out] at ho5 | (simp only [Int.reduceToNat] at ho5; rw [← Ny101.out] at ho5)); have a5 := Aside0.mk (Kd.R_lower ho5 (below_size (upH HB.out))); replace HB := Aside0.mk (below_step (upH HB.out) hb); clear hb ho5))
 (try simp only [Act.put, List.setIfInBounds_toArray, List.set_cons_zero, List.set_cons_succ])
 go_loopg [4] k (fun kq v4 w' => ∃ (a3 : List Int) (a1 : Int), v4 = .int .i64 a1 ∧ Aside0 (laws_toByteS.l0 kq l0 a3 a1 = some r) ∧ Aside0 (kq ≤ k) ∧ Aside0 (Kd.R (Kd.int .u8) 5 w' w.heap.size (fun _ => True) a8 a3) ∧ Aside0 (Below w.heap.size w w'))
 case atStart => exact ⟨(y101), (0), (by first | rfl | (simp; done) | (simp [*]; done)), H', ⟨Nat.le_refl _⟩, ⟨by first | exact a5.out | exact upR a5.out⟩, ⟨upH HB.out⟩⟩
 case round =>
  clear H'; (try clear c2); (try clear a6); (try clear c2b1); (try clear p2); (try clear c3); (try clear a7); (try clear c3b1); obtain ⟨a3, a1, rfl, HA, HK1, a2, HB⟩ := hrel
  cases gk with
  | zero => exact absurd HA.out (by simp [laws_toByteS.l0])
  | succ k1 =>
   have H := HA.out; clear HA
   simp only [laws_toByteS.l0] at H
   by_cases c6 : a1 < (l0.length : Int)
   rotate_left
   ·
    rw [if_neg c6] at H
    have a9 : decide (a1 < (l0.length : Int)) = false := decide_eq_false c6; clear c6; obtain rfl := Option.some.inj H
    go_wp2
    go_ret
    exact ⟨_, by first | rfl | (simp [*, errW_none, errW_some] <;> rfl), by first | exact a2.out | exact upR a2.out, upH HB.out⟩
   rw [if_pos c6] at H
   have a9 : decide (a1 < (l0.length : Int)) = true := decide_eq_true c6; clear c6
   by_cases c7 : 0 ≤ a1
   ·
    rw [if_pos c7] at H
    replace c7 := decide_eq_true c7
    by_cases c8 : a1 < (a3.length : Int)
    ·
     rw [if_pos c8] at H
     replace c8 := decide_eq_true c8; obtain ⟨y105, hy105⟩ : ∃ y_ : List Int, y_ = (a3.set (a1 : Int).toNat (rd l0 a1)) := ⟨_, rfl⟩
     replace H : (laws_toByteS.l0 k1 l0 y105 (wrap64 (a1 + 1))) = some r := by first | (rw [hy105]; with_reducible exact H) | (have H2_ := (Option.bind_some _ _).symm.trans H; rw [hy105]; with_reducible exact H2_) | (have H2_ := (Option.bind_some _ _).symm.trans H; with_reducible exact H2_) | with_reducible exact H | (rw [hy105]; exact H) | exact H
     have Ny105 := Aside0.mk hy105; clear hy105; have H' := Aside0.mk H; clear H; have p104 : 0 ≤ (a1 : Int) := of_decide_eq_true (by assumption); have q104 : a1 < (l0.length : Int) := of_decide_eq_true (by assumption); obtain ⟨ad104, b0, a4⟩ := Kd.at_int HR0.out a1 p104 q104
     cases b0
     replace a4 := (upc_ HB.out a4 :); replace p104 := eq_true p104; replace q104 := eq_true q104; have p9 : 0 ≤ (a1 : Int) := of_decide_eq_true (by assumption); have q9 : (a1 : Int) < ((a3.length : Int) : Int) := of_decide_eq_true (by assumption); obtain ⟨go9, co9, eo9, gb9, gl9, cl9, HG9⟩ := Kd.R_form a2.out (by omega)
     (first | cases eo9 | (injection eo9 with ea_ en_ ec_; (first | subst ea_ | (injection ea_ with ea_; subst ea_)); subst ec_; clear en_))
     have GB9 := Aside0.mk gb9; have GG9 := Aside0.mk HG9; clear gb9 gl9 HG9; obtain ⟨b1, hf9_0⟩ := Kd.R_celln 0 a2.out (a1 : Int) p9 q9; replace p9 := eq_true p9; replace q9 := eq_true q9; have HP10 := Kd.R_putg a2.out (a1 : Int) (rd l0 a1)
     go_wp2_with (first | ((with_reducible refine gate_store (t := 5) (p := 20) rfl ?_); refine store_event (t := 5) (p := 20) (v := ?vo_w11) (w1 := (wr.setCell ⟨go9, (a1 : Int).toNat, none⟩ (.int .u8 (rd l0 a1)))) ?hg ?ho ?hn ?hr ?_; (case ho => rfl); (case hg => rfl); (case hn => rfl); (case hr => first | (go_simp; done) | (go_simp; rfl)); intro w11 hw; have hg : wr.grownBy w11 (some go9) := (by rw [hw]; exact HP10.2); have hp_ : Kd.R (Kd.int .u8) 5 w11 w.heap.size (fun _ => True) (.slice (some ⟨go9, 0, none⟩) a3.length co9) y105 := (by rw [hw, Ny105.out]; exact HP10.1); clear HP10; replace a2 := Aside0.mk (hp_); replace HB := Aside0.mk ((by rw [hw]; exact below_set (HB.out) GB9.out : Below w.heap.size w w11)); clear hg hw hp_))
     go_roundg k1
     case measure => have := HK1.out; omega
     case rel => exact ⟨(y105), (wrap64 (a1 + 1)), (by first | rfl | (simp; done) | (simp [*]; done)), H', ⟨by have := HK1.out; omega⟩, ⟨by first | exact a2.out | exact upR a2.out⟩, ⟨upH HB.out⟩⟩
    rw [if_neg c8] at H
    exact absurd H (by simp)
   rw [if_neg c7] at H
   exact absurd H (by simp)
end
section
open Go.Proofs.YtgpkkkmapgnhkaaW.PrintWords.Aside0 renaming mk → yaa
def laws_toTenCfg.f (k : Nat) (l0_0 : List Int) (a0_1 : Int) (a0_2 : Int) (a0_3 : Int) (a0_4 : Int) (a0_5 : Int) (a0_6 : Int) : Option (List Int × Int × Int × Int × Int × Int × Int) := (laws_toByteS.f k l0_0).bind fun t104 => (some (t104, a0_1, a0_2, a0_3, a0_4, a0_5, a0_6))
set_option maxHeartbeats 8000000 in
set_option maxRecDepth 100000 in
theorem laws_toTenCfg.calls (k : Nat) (A0_0 : Option Addr) (c0_0 : Nat) (l0_0 : List Int) (a0_1 : Int) (a0_2 : Int) (a0_3 : Int) (a0_4 : Int) (a0_5 : Int) (a0_6 : Int) (r1 : List Int) (r2 : Int) (r3 : Int) (r4 : Int) (r5 : Int) (r6 : Int) (r7 : Int) (w : World) (hr0_0 : Kd.C (Kd.int .u8) w A0_0 l0_0.length l0_0) (hc0_0 : l0_0.length ≤ c0_0) (h : laws_toTenCfg.f k l0_0 a0_1 a0_2 a0_3 a0_4 a0_5 a0_6 = some (r1, r2, r3, r4, r5, r6, r7)) :
  Calls Try.prog 18 #[.agg #[.slice A0_0 l0_0.length c0_0, .int .i64 a0_1, .int .i64 a0_2, .int .i64 a0_3, .int .i64 a0_4, .int .i64 a0_5, .int .i64 a0_6]] w fun e w' => ∃ v0_ : Value, e = .returned (.agg #[v0_, .int .i64 r2, .int .i64 r3, .int .i64 r4, .int .i64 r5, .int .i64 r6, .int .i64 r7]) ∧ Kd.R (Kd.int .u8) 5 w' w.heap.size (fun _ => True) v0_ r1 ∧ Below w.heap.size w w' := by
 have hu30 := Try.underlying30; have hu24 := Try.underlying24; have HR0_0 := yaa hr0_0; have HC0_0 := yaa hc0_0; clear hr0_0 hc0_0; have HB := yaa (Below.refl w.heap.size w); have H : ((laws_toByteS.f k l0_0).bind fun b2 => (some (b2, a0_1, a0_2, a0_3, a0_4, a0_5, a0_6))) = some (r1, r2, r3, r4, r5, r6, r7) := h; clear h; obtain ⟨b2, A2, H⟩ := bindA H; (try dsimp only at H)
 simp only [Option.some.injEq, Prod.mk.injEq] at H
 obtain ⟨rfl, rfl, rfl, rfl, rfl, rfl, rfl⟩ := H
 go_enter Try.func18, Try.ntmps18
 go_wp2_with (first | ((with_reducible refine gd_ 1 rfl ?_); refine bx_ 1 rfl #[.slice A0_0 l0_0.length c0_0, .int .i64 a0_1, .int .i64 a0_2, .int .i64 a0_3, .int .i64 a0_4, .int .i64 a0_5, .int .i64 a0_6] 30 ?_; intro c1 hg w3 hbox hb; have a8 := yaa (hbox); have c4 := yaa ((by rw [hg]; exact (below_size (upH HB.out)) : w.heap.size ≤ c1)); replace HB := yaa (below_step (upH HB.out) hb); have i6 := c4; clear hb hbox hg) | ((with_reducible refine gd_ 2 rfl ?_); refine bx_ 2 rfl #[.slice none 0 0, .int .i64 0, .int .i64 0, .int .i64 0, .int .i64 0, .int .i64 0, .int .i64 0] 24 ?_; intro a9 hg w4 hbox hb; have b0 := yaa (hbox); have c5 := yaa ((by rw [hg]; exact (below_size (by repeat (with_reducible first | exact HB.out | apply below_alloc | apply pw_below_drewN | apply below_drew1 | refine below_set ?_ (Aside0.out ‹_›)))) : w.heap.size ≤ a9)); replace HB := yaa (below_step (by repeat (with_reducible first | exact HB.out | apply below_alloc | apply pw_below_drewN | apply below_drew1 | refine below_set ?_ (Aside0.out ‹_›))) hb); have i7 := c5; have b3 := yaa ((by rw [hg]; exact Nat.ne_of_lt (blk_lt (upB a8.out)) : c1 ≠ a9)); replace a8 := yaa (blk_below (upB a8.out) hb); have b8 := yaa b3.out.symm; clear hb hbox hg) | ((with_reducible refine gd_ 3 rfl ?_); refine bx_ 3 rfl #[.slice none 0 0, .int .i64 0, .int .i64 0, .int .i64 0, .int .i64 0, .int .i64 0, .int .i64 0] 24 ?_; intro b1 hg w5 hbox hb; have b7 := yaa (hbox); have c6 := yaa ((by rw [hg]; exact (below_size (by repeat (with_reducible first | exact HB.out | apply below_alloc | apply pw_below_drewN | apply below_drew1 | refine below_set ?_ (Aside0.out ‹_›)))) : w.heap.size ≤ b1)); replace HB := yaa (below_step (by repeat (with_reducible first | exact HB.out | apply below_alloc | apply pw_below_drewN | apply below_drew1 | refine below_set ?_ (Aside0.out ‹_›))) hb); have i8 := c6; have b4 := yaa ((by rw [hg]; exact Nat.ne_of_lt (blk_lt (upB a8.out)) : c1 ≠ b1)); replace a8 := yaa (blk_below (upB a8.out) hb); have b9 := yaa b4.out.symm; have a7 := yaa ((by rw [hg]; exact Nat.ne_of_lt (blk_lt (upB b0.out)) : a9 ≠ b1)); replace b0 := yaa (blk_below (upB b0.out) hb); have c0 := yaa a7.out.symm; clear hb hbox hg; have j1 := b3.out; have j2 := b8.out; have j3 := b4.out; have j4 := b9.out; obtain ⟨g9, h0, h1, h2, h3, h4, h5⟩ := cc7_ a8.out; obtain ⟨h6, h7, h8, h9, i0, i1⟩ := cf6_ a8.out; have i3 := blk_frozen a8.out 6) | ((with_reducible refine gc_ 66 rfl ?_); refine gl_ (some 6) rfl Try.func66 #[.slice A0_0 l0_0.length c0_0] ?_; (with_reducible refine (laws_toByteS.calls k _ _ l0_0 b2 _ ?side1 ?side2 A2.out).mono ?_); (case side1 => repeat (first | exact (Kd.C_below HR0_0.out HB.out) | (with_reducible refine Kd.C_alloc ?_ _) | (with_reducible refine Kd.C_drewN ?_ _) | (with_reducible refine Kd.C_drew ?_))); (case side2 => exact HC0_0.out); rintro e w9 ⟨j5, rfl, ho0, hb⟩; refine ⟨_, rfl, ?_⟩; have c2 := yaa (Kd.R_lower ho0 (below_size (by repeat (with_reducible first | exact HB.out | apply below_alloc | apply pw_below_drewN | apply below_drew1 | refine below_set ?_ (Aside0.out ‹_›))))); replace a8 := yaa (blk_below (upB a8.out) hb); replace b0 := yaa (blk_below (upB b0.out) hb); replace b7 := yaa (blk_below (upB b7.out) hb); replace HB := yaa (below_step (by repeat (with_reducible first | exact HB.out | apply below_alloc | apply pw_below_drewN | apply below_drew1 | refine below_set ?_ (Aside0.out ‹_›))) hb); (try clear hb ho0); obtain ⟨b5, b6, i4⟩ := Kd.R_slice c2.out; subst i4; have i9 := c0.out; have j0 := a7.out; obtain ⟨c7, c8, c9, d0, d1, d2, d3⟩ := cc7_ b7.out; obtain ⟨d4, d5, d6, d7, d8, d9, e0⟩ := cf7_ b7.out; obtain ⟨e1, e2, e3, e4, e5, e6, e7⟩ := cc7_ a8.out; obtain ⟨e8, e9, f0, f1, f2, f3, f4⟩ := cf7_ a8.out; obtain ⟨f5, f6, f7, f8, f9, g0, g1⟩ := cc7_ b0.out; obtain ⟨g2, g3, g4, g5, g6, g7⟩ := cf6_ b0.out; have g8 := blk_frozen b0.out 6))
 refine bodyPost_ret (results_cell_row rfl _ _ a9 24 #[.slice b5 b2.length b6, .int .i64 a0_1, .int .i64 a0_2, .int .i64 a0_3, .int .i64 a0_4, .int .i64 a0_5, .int .i64 a0_6] (0, 0) _ rfl (by (repeat refine oneB ?_); refine blk_put (cs := #[.slice b5 b2.length b6, .int .i64 a0_1, .int .i64 a0_2, .int .i64 a0_3, .int .i64 a0_4, .int .i64 a0_5, .int .i64 0]) ?_ 6 _ rfl; refine blk_put (cs := #[.slice b5 b2.length b6, .int .i64 a0_1, .int .i64 a0_2, .int .i64 a0_3, .int .i64 a0_4, .int .i64 0, .int .i64 0]) ?_ 5 _ rfl; refine blk_put (cs := #[.slice b5 b2.length b6, .int .i64 a0_1, .int .i64 a0_2, .int .i64 a0_3, .int .i64 0, .int .i64 0, .int .i64 0]) ?_ 4 _ rfl; refine blk_put (cs := #[.slice b5 b2.length b6, .int .i64 a0_1, .int .i64 a0_2, .int .i64 0, .int .i64 0, .int .i64 0, .int .i64 0]) ?_ 3 _ rfl; refine blk_put (cs := #[.slice b5 b2.length b6, .int .i64 a0_1, .int .i64 0, .int .i64 0, .int .i64 0, .int .i64 0, .int .i64 0]) ?_ 2 _ rfl; refine blk_put (cs := #[.slice b5 b2.length b6, .int .i64 0, .int .i64 0, .int .i64 0, .int .i64 0, .int .i64 0, .int .i64 0]) ?_ 1 _ rfl; refine blk_put (cs := #[.slice none 0 0, .int .i64 0, .int .i64 0, .int .i64 0, .int .i64 0, .int .i64 0, .int .i64 0]) ?_ 0 _ rfl; (repeat refine oneB ?_); refine blk_far ?_ a7.out _; (repeat refine oneB ?_); refine blk_far ?_ a7.out _; (repeat refine oneB ?_); refine blk_far ?_ a7.out _; (repeat refine oneB ?_); refine blk_far ?_ a7.out _; (repeat refine oneB ?_); refine blk_far ?_ a7.out _; (repeat refine oneB ?_); refine blk_far ?_ a7.out _; (repeat refine oneB ?_); refine blk_far ?_ a7.out _; exact upB b0.out) Try.underlying24 rfl (by kernel_rfl)) rfl ?_
 exact ⟨_, by first | rfl | (simp [*, errW_none, errW_some] <;> rfl), by (with_reducible repeat (first | apply Kd.R_alloc | apply Kd.R_drewN | apply Kd.R_drew)); exact Kd.R_mono (Kd.R_far (p := ⟨a9, 6, none⟩) (Kd.R_far (p := ⟨a9, 5, none⟩) (Kd.R_far (p := ⟨a9, 4, none⟩) (Kd.R_far (p := ⟨a9, 3, none⟩) (Kd.R_far (p := ⟨a9, 2, none⟩) (Kd.R_far (p := ⟨a9, 1, none⟩) (Kd.R_far (p := ⟨a9, 0, none⟩) (Kd.R_far (p := ⟨b1, 6, none⟩) (Kd.R_far (p := ⟨b1, 5, none⟩) (Kd.R_far (p := ⟨b1, 4, none⟩) (Kd.R_far (p := ⟨b1, 3, none⟩) (Kd.R_far (p := ⟨b1, 2, none⟩) (Kd.R_far (p := ⟨b1, 1, none⟩) (Kd.R_far (p := ⟨b1, 0, none⟩) (Kd.R_types (Kd.R_types c2.out b7.out (by decide)) b0.out (by decide)) (fun _ hk => hk.1.2) (.slice b5 b2.length b6)) (fun _ hk => hk.1.2) (.int .i64 a0_1)) (fun _ hk => hk.1.2) (.int .i64 a0_2)) (fun _ hk => hk.1.2) (.int .i64 a0_3)) (fun _ hk => hk.1.2) (.int .i64 a0_4)) (fun _ hk => hk.1.2) (.int .i64 a0_5)) (fun _ hk => hk.1.2) (.int .i64 a0_6)) (fun _ hk => hk.2) (.slice b5 b2.length b6)) (fun _ hk => hk.2) (.int .i64 a0_1)) (fun _ hk => hk.2) (.int .i64 a0_2)) (fun _ hk => hk.2) (.int .i64 a0_3)) (fun _ hk => hk.2) (.int .i64 a0_4)) (fun _ hk => hk.2) (.int .i64 a0_5)) (fun _ hk => hk.2) (.int .i64 a0_6)) (fun _ hk => trivial), by repeat (with_reducible first | exact HB.out | apply below_alloc | apply pw_below_drewN | apply below_drew1 | refine below_set ?_ (Aside0.out ‹_›))⟩
end
section
def laws_eqByteS.l0 : Nat → List Int → List Int → Int → Option (Bool)
 | 0, _, _, _ => none
 | k + 1, x0, x1, x5 => if x5 < (x0.length : Int) then (if 0 ≤ x5 then (if x5 < (x1.length : Int) then (if (rd x0 x5) = (rd x1 x5) then (laws_eqByteS.l0 k x0 x1 (wrap64 (x5 + 1))) else (some false)) else (none)) else (none)) else (some true)
def laws_eqByteS.f (k : Nat) (l0 : List Int) (l1 : List Int) : Option (Bool) := if (l0.length : Int) = (l1.length : Int) then (laws_eqByteS.l0 k l0 l1 0) else (some false)
set_option maxHeartbeats 8000000 in
set_option maxRecDepth 100000 in
theorem laws_eqByteS.calls (k : Nat) (A0 : Option Addr) (c0 : Nat) (l0 : List Int) (A1 : Option Addr) (c1 : Nat) (l1 : List Int) (r : Bool) (w : World) (hr0 : Kd.C (Kd.int .u8) w A0 l0.length l0) (hc0 : l0.length ≤ c0) (hr1 : Kd.C (Kd.int .u8) w A1 l1.length l1) (hc1 : l1.length ≤ c1) (h : laws_eqByteS.f k l0 l1 = some r) :
  Calls Try.prog 67 #[.slice A0 l0.length c0, .slice A1 l1.length c1] w fun e w' => e = .returned (.bool r) ∧ Drawn0 w w' := by
 have HR0 := Aside0.mk hr0; have HC0 := Aside0.mk hc0; clear hr0 hc0; have HR1 := Aside0.mk hr1; have HC1 := Aside0.mk hc1; clear hr1 hc1; have H : (if (l0.length : Int) = (l1.length : Int) then (laws_eqByteS.l0 k l0 l1 0) else (some false)) = some r := h; clear h
 by_cases c3 : (l0.length : Int) = (l1.length : Int)
 rotate_left
 ·
  rw [if_neg c3] at H
  have a7 := beq_eq_false_iff_ne.mpr c3; have a8 := bne_iff_ne.mpr c3
  have a9 : (l0.length == l1.length) = false := by first | simpa using c3 | (simp at c3 ⊢; omega)
  obtain rfl := Option.some.inj H
  go_enter Try.func67, Try.ntmps67
  go_wp2
  repeat (go_quiet (fail); try go_wp2)
  go_ret
  exact ⟨by first | rfl | (simp; done) | (simp [*]; done), by repeat (first | exact Drawn0.refl _ | apply Drawn0.step)⟩
 rw [if_pos c3] at H
 have a7 := beq_iff_eq.mpr c3; have a8 := bne_eq_false_iff_eq.mpr c3
 have a9 : (l0.length == l1.length) = true := by first | simpa using c3 | (simp at c3 ⊢; omega)
 clear c3; have H' := Aside0.mk H; clear H
 go_enter Try.func67, Try.ntmps67
 go_wp2
 repeat (go_quiet (fail); try go_wp2)
 (try simp only [Act.put, List.setIfInBounds_toArray, List.set_cons_zero, List.set_cons_succ])
 go_loopg [5] k (fun kq v5 w' => ∃ (a2 : Int), v5 = .int .i64 a2 ∧ Aside0 (laws_eqByteS.l0 kq l0 l1 a2 = some r) ∧ Aside0 (kq ≤ k) ∧ Drawn0 w w')
 case atStart => exact ⟨(0), (by first | rfl | (simp; done) | (simp [*]; done)), H', ⟨Nat.le_refl _⟩, by repeat (first | exact Drawn0.refl _ | apply Drawn0.step)⟩
 case round =>
  clear H'; (try clear c1); (try clear p2); (try clear c3); (try clear a7); (try clear a8); (try clear a9); obtain ⟨a2, rfl, HA, HK1, ⟨m1, rfl⟩⟩ := hrel
  cases gk with
  | zero => exact absurd HA.out (by simp [laws_eqByteS.l0])
  | succ k1 =>
   have H := HA.out; clear HA
   simp only [laws_eqByteS.l0] at H
   by_cases c4 : a2 < (l0.length : Int)
   rotate_left
   ·
    rw [if_neg c4] at H
    have b0 : decide (a2 < (l0.length : Int)) = false := decide_eq_false c4; clear c4; obtain rfl := Option.some.inj H
    go_wp2
    repeat (go_quiet (fail); try go_wp2)
    go_ret
    exact ⟨by first | rfl | (simp; done) | (simp [*]; done), by repeat (first | exact Drawn0.refl _ | apply Drawn0.step)⟩
   rw [if_pos c4] at H
   have b0 : decide (a2 < (l0.length : Int)) = true := decide_eq_true c4; clear c4
   by_cases c5 : 0 ≤ a2
   rotate_left
   ·
    rw [if_neg c5] at H
    exact absurd H (by simp)
   rw [if_pos c5] at H
   replace c5 := decide_eq_true c5
   by_cases c6 : a2 < (l1.length : Int)
   rotate_left
   ·
    rw [if_neg c6] at H
    exact absurd H (by simp)
   rw [if_pos c6] at H
   replace c6 := decide_eq_true c6
   by_cases c7 : (rd l0 a2) = (rd l1 a2)
   ·
    rw [if_pos c7] at H
    have b1 := beq_iff_eq.mpr c7; have b2 := bne_eq_false_iff_eq.mpr c7; clear c7; have H' := Aside0.mk H; clear H; have p101 : 0 ≤ (a2 : Int) := of_decide_eq_true (by assumption); have q101 : a2 < (l0.length : Int) := of_decide_eq_true (by assumption); obtain ⟨ad101, a5, a3⟩ := Kd.at_int HR0.out a2 p101 q101
    cases a5
    replace p101 := eq_true p101; replace q101 := eq_true q101; have p102 : 0 ≤ (a2 : Int) := of_decide_eq_true (by assumption); have q102 : a2 < (l1.length : Int) := of_decide_eq_true (by assumption); obtain ⟨ad102, a6, a4⟩ := Kd.at_int HR1.out a2 p102 q102
    cases a6
    replace p102 := eq_true p102; replace q102 := eq_true q102
    go_wp2
    repeat (go_quiet (fail); try go_wp2)
    go_roundg k1
    case measure => have := HK1.out; omega
    case rel => exact ⟨(wrap64 (a2 + 1)), (by first | rfl | (simp; done) | (simp [*]; done)), H', ⟨by have := HK1.out; omega⟩, by repeat (first | exact Drawn0.refl _ | apply Drawn0.step)⟩
   rw [if_neg c7] at H
   have b1 := beq_eq_false_iff_ne.mpr c7; have b2 := bne_iff_ne.mpr c7; obtain rfl := Option.some.inj H; have p101 : 0 ≤ (a2 : Int) := of_decide_eq_true (by assumption); have q101 : a2 < (l0.length : Int) := of_decide_eq_true (by assumption); obtain ⟨ad101, a5, a3⟩ := Kd.at_int HR0.out a2 p101 q101
   cases a5
   replace p101 := eq_true p101; replace q101 := eq_true q101; have p102 : 0 ≤ (a2 : Int) := of_decide_eq_true (by assumption); have q102 : a2 < (l1.length : Int) := of_decide_eq_true (by assumption); obtain ⟨ad102, a6, a4⟩ := Kd.at_int HR1.out a2 p102 q102
   cases a6
   replace p102 := eq_true p102; replace q102 := eq_true q102
   go_wp2
   repeat (go_quiet (fail); try go_wp2)
   go_ret
   exact ⟨by first | rfl | (simp; done) | (simp [*]; done), by repeat (first | exact Drawn0.refl _ | apply Drawn0.step)⟩
end
section
open Go.Proofs.YtgpkkkmapgnhkaaW.PrintWords.Aside0 renaming mk → yaa
open Go.Proofs.YtgpkkkmapgnhkaaW.PrintWords renaming pw_below_drewN → yab, below_alloc → yac, below_drew1 → yad, below_set → yae, below_size → yaf, below_step → yag
open Go.Proofs.YtgpkkkmapgnhkaaW.PrintWords.Kd renaming C_below → yah, C_alloc → yai, C_drewN → yaj
def laws_eqTenCfg.f (k : Nat) (l0_0 : List Int) (a0_1 : Int) (a0_2 : Int) (a0_3 : Int) (a0_4 : Int) (a0_5 : Int) (a0_6 : Int) (l1_0 : List Int) (a1_1 : Int) (a1_2 : Int) (a1_3 : Int) (a1_4 : Int) (a1_5 : Int) (a1_6 : Int) : Option (Bool) := (laws_eqByteS.f k l0_0 l1_0).bind fun t103 => (if t103 = true then (if a0_1 = a1_1 then (if a0_2 = a1_2 then (if a0_3 = a1_3 then (if a0_4 = a1_4 then (if a0_5 = a1_5 then (if a0_6 = a1_6 then (some true) else (some false)) else (some false)) else (some false)) else (some false)) else (some false)) else (some false)) else (some false))
set_option maxHeartbeats 8000000 in
set_option maxRecDepth 100000 in
theorem laws_eqTenCfg.calls (k : Nat) (A0_0 : Option Addr) (c0_0 : Nat) (l0_0 : List Int) (a0_1 : Int) (a0_2 : Int) (a0_3 : Int) (a0_4 : Int) (a0_5 : Int) (a0_6 : Int) (A1_0 : Option Addr) (c1_0 : Nat) (l1_0 : List Int) (a1_1 : Int) (a1_2 : Int) (a1_3 : Int) (a1_4 : Int) (a1_5 : Int) (a1_6 : Int) (r : Bool) (w : World) (hr0_0 : Kd.C (Kd.int .u8) w A0_0 l0_0.length l0_0) (hc0_0 : l0_0.length ≤ c0_0) (hr1_0 : Kd.C (Kd.int .u8) w A1_0 l1_0.length l1_0) (hc1_0 : l1_0.length ≤ c1_0) (h : laws_eqTenCfg.f k l0_0 a0_1 a0_2 a0_3 a0_4 a0_5 a0_6 l1_0 a1_1 a1_2 a1_3 a1_4 a1_5 a1_6 = some r) :
  Calls Try.prog 19 #[.agg #[.slice A0_0 l0_0.length c0_0, .int .i64 a0_1, .int .i64 a0_2, .int .i64 a0_3, .int .i64 a0_4, .int .i64 a0_5, .int .i64 a0_6], .agg #[.slice A1_0 l1_0.length c1_0, .int .i64 a1_1, .int .i64 a1_2, .int .i64 a1_3, .int .i64 a1_4, .int .i64 a1_5, .int .i64 a1_6]] w fun e w' => e = .returned (.bool r) ∧ Below w.heap.size w w' := by
 have hu24 := Try.underlying24; have HR0_0 := yaa hr0_0; have HC0_0 := yaa hc0_0; clear hr0_0 hc0_0; have HR1_0 := yaa hr1_0; have HC1_0 := yaa hc1_0; clear hr1_0 hc1_0; have HB := yaa (Below.refl w.heap.size w); have H : ((laws_eqByteS.f k l0_0 l1_0).bind fun c3 => (if c3 = true then (if a0_1 = a1_1 then (if a0_2 = a1_2 then (if a0_3 = a1_3 then (if a0_4 = a1_4 then (if a0_5 = a1_5 then (if a0_6 = a1_6 then (some true) else (some false)) else (some false)) else (some false)) else (some false)) else (some false)) else (some false)) else (some false))) = some r := h; clear h; obtain ⟨c3, A3, H⟩ := bindA H; (try dsimp only at H)
 by_cases c4 : c3 = true
 rotate_left
 ·
  replace c4 := Bool.eq_false_iff.mpr c4
  subst c4
  rw [if_neg (show ¬ (false = true) by decide)] at H
  obtain rfl := Option.some.inj H
  go_enter Try.func19, Try.ntmps19
  go_wp2_with (first | ((with_reducible refine gd_ 2 rfl ?_); refine bx_ 2 rfl #[.slice A0_0 l0_0.length c0_0, .int .i64 a0_1, .int .i64 a0_2, .int .i64 a0_3, .int .i64 a0_4, .int .i64 a0_5, .int .i64 a0_6] 24 ?_; intro b4 hg w46 hbox hb; have b1 := yaa (hbox); have b6 := yaa ((by rw [hg]; exact (yaf (upH HB.out)) : w.heap.size ≤ b4)); replace HB := yaa (yag (upH HB.out) hb); have b9 := b6; clear hb hbox hg) | ((with_reducible refine gd_ 3 rfl ?_); refine bx_ 3 rfl #[.slice A1_0 l1_0.length c1_0, .int .i64 a1_1, .int .i64 a1_2, .int .i64 a1_3, .int .i64 a1_4, .int .i64 a1_5, .int .i64 a1_6] 24 ?_; intro b5 hg w47 hbox hb; have b3 := yaa (hbox); have b7 := yaa ((by rw [hg]; exact (yaf (by repeat (with_reducible first | exact HB.out | apply yac | apply yab | apply yad | refine yae ?_ (Aside0.out ‹_›)))) : w.heap.size ≤ b5)); replace HB := yaa (yag (by repeat (with_reducible first | exact HB.out | apply yac | apply yab | apply yad | refine yae ?_ (Aside0.out ‹_›))) hb); have c0 := b7; have b0 := yaa ((by rw [hg]; exact Nat.ne_of_lt (blk_lt (upB b1.out)) : b4 ≠ b5)); replace b1 := yaa (blk_below (upB b1.out) hb); have b2 := yaa b0.out.symm; clear hb hbox hg; have C2 := b0.out; have C3 := b2.out; obtain ⟨w9, x0, x1, x2, x3, x4, x5⟩ := cc7_ b1.out; obtain ⟨x6, x7, x8, x9, y0, y1, y2⟩ := cf7_ b1.out; obtain ⟨y3, y4, y5, y6, y7, y8, y9⟩ := cc7_ b3.out; obtain ⟨z0, z1, z2, z3, z4, z5⟩ := cf6_ b3.out; have z6 := blk_frozen b3.out 6) | ((with_reducible refine gc_ 67 rfl ?_); refine gl_ (some 9) rfl Try.func67 #[.slice A0_0 l0_0.length c0_0, .slice A1_0 l1_0.length c1_0] ?_; (with_reducible refine (laws_eqByteS.calls k _ _ l0_0 _ _ l1_0 false _ ?side1 ?side2 ?side3 ?side4 A3.out).mono ?_); (case side1 => repeat (first | exact (yah HR0_0.out HB.out) | (with_reducible refine yai ?_ _) | (with_reducible refine yaj ?_ _) | (with_reducible refine Kd.C_drew ?_))); (case side2 => exact HC0_0.out); (case side3 => repeat (first | exact (yah HR1_0.out HB.out) | (with_reducible refine yai ?_ _) | (with_reducible refine yaj ?_ _) | (with_reducible refine Kd.C_drew ?_))); (case side4 => exact HC1_0.out); rintro e w' ⟨rfl, ⟨nd, rfl⟩⟩; refine ⟨_, rfl, ?_⟩))
  go_ret
  exact ⟨by first | rfl | (simp [*, errW_none, errW_some] <;> rfl), by repeat (with_reducible first | exact HB.out | apply yac | apply yab | apply yad | refine yae ?_ (Aside0.out ‹_›))⟩
 subst c4
 rw [if_pos rfl] at H
 by_cases c5 : a0_1 = a1_1
 rotate_left
 ·
  rw [if_neg c5] at H
  have z7 := beq_eq_false_iff_ne.mpr c5; have z8 := bne_iff_ne.mpr c5; obtain rfl := Option.some.inj H
  go_enter Try.func19, Try.ntmps19
  go_wp2_with (first | ((with_reducible refine gd_ 2 rfl ?_); refine bx_ 2 rfl #[.slice A0_0 l0_0.length c0_0, .int .i64 a0_1, .int .i64 a0_2, .int .i64 a0_3, .int .i64 a0_4, .int .i64 a0_5, .int .i64 a0_6] 24 ?_; intro b4 hg w41 hbox hb; have b1 := yaa (hbox); have b6 := yaa ((by rw [hg]; exact (yaf (upH HB.out)) : w.heap.size ≤ b4)); replace HB := yaa (yag (upH HB.out) hb); have b9 := b6; clear hb hbox hg) | ((with_reducible refine gd_ 3 rfl ?_); refine bx_ 3 rfl #[.slice A1_0 l1_0.length c1_0, .int .i64 a1_1, .int .i64 a1_2, .int .i64 a1_3, .int .i64 a1_4, .int .i64 a1_5, .int .i64 a1_6] 24 ?_; intro b5 hg w42 hbox hb; have b3 := yaa (hbox); have b7 := yaa ((by rw [hg]; exact (yaf (by repeat (with_reducible first | exact HB.out | apply yac | apply yab | apply yad | refine yae ?_ (Aside0.out ‹_›)))) : w.heap.size ≤ b5)); replace HB := yaa (yag (by repeat (with_reducible first | exact HB.out | apply yac | apply yab | apply yad | refine yae ?_ (Aside0.out ‹_›))) hb); have c0 := b7; have b0 := yaa ((by rw [hg]; exact Nat.ne_of_lt (blk_lt (upB b1.out)) : b4 ≠ b5)); replace b1 := yaa (blk_below (upB b1.out) hb); have b2 := yaa b0.out.symm; clear hb hbox hg; have C0 := b0.out; have C1 := b2.out; obtain ⟨u0, u1, u2, u3, u4, u5, u6⟩ := cc7_ b1.out; obtain ⟨u7, u9, v0, v1, v2, v3, v4⟩ := cf7_ b1.out; obtain ⟨v5, v6, v7, v8, v9, w0, w1⟩ := cc7_ b3.out; obtain ⟨w2, w3, w4, w5, w6, w7⟩ := cf6_ b3.out; have w8 := blk_frozen b3.out 6) | ((with_reducible refine gc_ 67 rfl ?_); refine gl_ (some 9) rfl Try.func67 #[.slice A0_0 l0_0.length c0_0, .slice A1_0 l1_0.length c1_0] ?_; (with_reducible refine (laws_eqByteS.calls k _ _ l0_0 _ _ l1_0 true _ ?side1 ?side2 ?side3 ?side4 A3.out).mono ?_); (case side1 => repeat (first | exact (yah HR0_0.out HB.out) | (with_reducible refine yai ?_ _) | (with_reducible refine yaj ?_ _) | (with_reducible refine Kd.C_drew ?_))); (case side2 => exact HC0_0.out); (case side3 => repeat (first | exact (yah HR1_0.out HB.out) | (with_reducible refine yai ?_ _) | (with_reducible refine yaj ?_ _) | (with_reducible refine Kd.C_drew ?_))); (case side4 => exact HC1_0.out); rintro e w' ⟨rfl, ⟨nd, rfl⟩⟩; refine ⟨_, rfl, ?_⟩))
  go_ret
  exact ⟨by first | rfl | (simp [*, errW_none, errW_some] <;> rfl), by repeat (with_reducible first | exact HB.out | apply yac | apply yab | apply yad | refine yae ?_ (Aside0.out ‹_›))⟩
 rw [if_pos c5] at H
 have z7 := beq_iff_eq.mpr c5; have z8 := bne_eq_false_iff_eq.mpr c5; clear c5
 by_cases c6 : a0_2 = a1_2
 rotate_left
 ·
  rw [if_neg c6] at H
  have z9 := beq_eq_false_iff_ne.mpr c6; have A0 := bne_iff_ne.mpr c6; obtain rfl := Option.some.inj H
  go_enter Try.func19, Try.ntmps19
  go_wp2_with (first | ((with_reducible refine gd_ 2 rfl ?_); refine bx_ 2 rfl #[.slice A0_0 l0_0.length c0_0, .int .i64 a0_1, .int .i64 a0_2, .int .i64 a0_3, .int .i64 a0_4, .int .i64 a0_5, .int .i64 a0_6] 24 ?_; intro b4 hg w36 hbox hb; have b1 := yaa (hbox); have b6 := yaa ((by rw [hg]; exact (yaf (upH HB.out)) : w.heap.size ≤ b4)); replace HB := yaa (yag (upH HB.out) hb); have b9 := b6; clear hb hbox hg) | ((with_reducible refine gd_ 3 rfl ?_); refine bx_ 3 rfl #[.slice A1_0 l1_0.length c1_0, .int .i64 a1_1, .int .i64 a1_2, .int .i64 a1_3, .int .i64 a1_4, .int .i64 a1_5, .int .i64 a1_6] 24 ?_; intro b5 hg w37 hbox hb; have b3 := yaa (hbox); have b7 := yaa ((by rw [hg]; exact (yaf (by repeat (with_reducible first | exact HB.out | apply yac | apply yab | apply yad | refine yae ?_ (Aside0.out ‹_›)))) : w.heap.size ≤ b5)); replace HB := yaa (yag (by repeat (with_reducible first | exact HB.out | apply yac | apply yab | apply yad | refine yae ?_ (Aside0.out ‹_›))) hb); have c0 := b7; have b0 := yaa ((by rw [hg]; exact Nat.ne_of_lt (blk_lt (upB b1.out)) : b4 ≠ b5)); replace b1 := yaa (blk_below (upB b1.out) hb); have b2 := yaa b0.out.symm; clear hb hbox hg; have B8 := b0.out; have B9 := b2.out; obtain ⟨r2, r3, r4, r5, r6, r7, r8⟩ := cc7_ b1.out; obtain ⟨r9, s0, s1, s2, s3, s4, s5⟩ := cf7_ b1.out; obtain ⟨s6, s7, s8, s9, t0, t1, t2⟩ := cc7_ b3.out; obtain ⟨t3, t4, t5, t6, t7, t8⟩ := cf6_ b3.out; have t9 := blk_frozen b3.out 6) | ((with_reducible refine gc_ 67 rfl ?_); refine gl_ (some 9) rfl Try.func67 #[.slice A0_0 l0_0.length c0_0, .slice A1_0 l1_0.length c1_0] ?_; (with_reducible refine (laws_eqByteS.calls k _ _ l0_0 _ _ l1_0 true _ ?side1 ?side2 ?side3 ?side4 A3.out).mono ?_); (case side1 => repeat (first | exact (yah HR0_0.out HB.out) | (with_reducible refine yai ?_ _) | (with_reducible refine yaj ?_ _) | (with_reducible refine Kd.C_drew ?_))); (case side2 => exact HC0_0.out); (case side3 => repeat (first | exact (yah HR1_0.out HB.out) | (with_reducible refine yai ?_ _) | (with_reducible refine yaj ?_ _) | (with_reducible refine Kd.C_drew ?_))); (case side4 => exact HC1_0.out); rintro e w' ⟨rfl, ⟨nd, rfl⟩⟩; refine ⟨_, rfl, ?_⟩))
  go_ret
  exact ⟨by first | rfl | (simp [*, errW_none, errW_some] <;> rfl), by repeat (with_reducible first | exact HB.out | apply yac | apply yab | apply yad | refine yae ?_ (Aside0.out ‹_›))⟩
 rw [if_pos c6] at H
 have z9 := beq_iff_eq.mpr c6; have A0 := bne_eq_false_iff_eq.mpr c6; clear c6
 by_cases c7 : a0_3 = a1_3
 rotate_left
 ·
  rw [if_neg c7] at H
  have A1 := beq_eq_false_iff_ne.mpr c7; have A2 := bne_iff_ne.mpr c7; obtain rfl := Option.some.inj H
  go_enter Try.func19, Try.ntmps19
  go_wp2_with (first | ((with_reducible refine gd_ 2 rfl ?_); refine bx_ 2 rfl #[.slice A0_0 l0_0.length c0_0, .int .i64 a0_1, .int .i64 a0_2, .int .i64 a0_3, .int .i64 a0_4, .int .i64 a0_5, .int .i64 a0_6] 24 ?_; intro b4 hg w31 hbox hb; have b1 := yaa (hbox); have b6 := yaa ((by rw [hg]; exact (yaf (upH HB.out)) : w.heap.size ≤ b4)); replace HB := yaa (yag (upH HB.out) hb); have b9 := b6; clear hb hbox hg) | ((with_reducible refine gd_ 3 rfl ?_); refine bx_ 3 rfl #[.slice A1_0 l1_0.length c1_0, .int .i64 a1_1, .int .i64 a1_2, .int .i64 a1_3, .int .i64 a1_4, .int .i64 a1_5, .int .i64 a1_6] 24 ?_; intro b5 hg w32 hbox hb; have b3 := yaa (hbox); have b7 := yaa ((by rw [hg]; exact (yaf (by repeat (with_reducible first | exact HB.out | apply yac | apply yab | apply yad | refine yae ?_ (Aside0.out ‹_›)))) : w.heap.size ≤ b5)); replace HB := yaa (yag (by repeat (with_reducible first | exact HB.out | apply yac | apply yab | apply yad | refine yae ?_ (Aside0.out ‹_›))) hb); have c0 := b7; have b0 := yaa ((by rw [hg]; exact Nat.ne_of_lt (blk_lt (upB b1.out)) : b4 ≠ b5)); replace b1 := yaa (blk_below (upB b1.out) hb); have b2 := yaa b0.out.symm; clear hb hbox hg; have B6 := b0.out; have B7 := b2.out; obtain ⟨o4, o5, o6, o7, o8, o9, p0⟩ := cc7_ b1.out; obtain ⟨p1, p2, p3, p4, p5, p6, p7⟩ := cf7_ b1.out; obtain ⟨p8, p9, q0, q1, q2, q3, q4⟩ := cc7_ b3.out; obtain ⟨q5, q6, q7, q8, q9, r0⟩ := cf6_ b3.out; have r1 := blk_frozen b3.out 6) | ((with_reducible refine gc_ 67 rfl ?_); refine gl_ (some 9) rfl Try.func67 #[.slice A0_0 l0_0.length c0_0, .slice A1_0 l1_0.length c1_0] ?_; (with_reducible refine (laws_eqByteS.calls k _ _ l0_0 _ _ l1_0 true _ ?side1 ?side2 ?side3 ?side4 A3.out).mono ?_); (case side1 => repeat (first | exact (yah HR0_0.out HB.out) | (with_reducible refine yai ?_ _) | (with_reducible refine yaj ?_ _) | (with_reducible refine Kd.C_drew ?_))); (case side2 => exact HC0_0.out); (case side3 => repeat (first | exact (yah HR1_0.out HB.out) | (with_reducible refine yai ?_ _) | (with_reducible refine yaj ?_ _) | (with_reducible refine Kd.C_drew ?_))); (case side4 => exact HC1_0.out); rintro e w' ⟨rfl, ⟨nd, rfl⟩⟩; refine ⟨_, rfl, ?_⟩))
  go_ret
  exact ⟨by first | rfl | (simp [*, errW_none, errW_some] <;> rfl), by repeat (with_reducible first | exact HB.out | apply yac | apply yab | apply yad | refine yae ?_ (Aside0.out ‹_›))⟩
 rw [if_pos c7] at H
 have A1 := beq_iff_eq.mpr c7; have A2 := bne_eq_false_iff_eq.mpr c7; clear c7
 by_cases c8 : a0_4 = a1_4
 rotate_left
 ·
  rw [if_neg c8] at H
  have A4 := beq_eq_false_iff_ne.mpr c8; have A5 := bne_iff_ne.mpr c8; obtain rfl := Option.some.inj H
  go_enter Try.func19, Try.ntmps19
  go_wp2_with (first | ((with_reducible refine gd_ 2 rfl ?_); refine bx_ 2 rfl #[.slice A0_0 l0_0.length c0_0, .int .i64 a0_1, .int .i64 a0_2, .int .i64 a0_3, .int .i64 a0_4, .int .i64 a0_5, .int .i64 a0_6] 24 ?_; intro b4 hg w26 hbox hb; have b1 := yaa (hbox); have b6 := yaa ((by rw [hg]; exact (yaf (upH HB.out)) : w.heap.size ≤ b4)); replace HB := yaa (yag (upH HB.out) hb); have b9 := b6; clear hb hbox hg) | ((with_reducible refine gd_ 3 rfl ?_); refine bx_ 3 rfl #[.slice A1_0 l1_0.length c1_0, .int .i64 a1_1, .int .i64 a1_2, .int .i64 a1_3, .int .i64 a1_4, .int .i64 a1_5, .int .i64 a1_6] 24 ?_; intro b5 hg w27 hbox hb; have b3 := yaa (hbox); have b7 := yaa ((by rw [hg]; exact (yaf (by repeat (with_reducible first | exact HB.out | apply yac | apply yab | apply yad | refine yae ?_ (Aside0.out ‹_›)))) : w.heap.size ≤ b5)); replace HB := yaa (yag (by repeat (with_reducible first | exact HB.out | apply yac | apply yab | apply yad | refine yae ?_ (Aside0.out ‹_›))) hb); have c0 := b7; have b0 := yaa ((by rw [hg]; exact Nat.ne_of_lt (blk_lt (upB b1.out)) : b4 ≠ b5)); replace b1 := yaa (blk_below (upB b1.out) hb); have b2 := yaa b0.out.symm; clear hb hbox hg; have B4 := b0.out; have B5 := b2.out; obtain ⟨l6, l7, l8, l9, m0, m1, m2⟩ := cc7_ b1.out; obtain ⟨m3, m4, m5, m6, m7, m8, m9⟩ := cf7_ b1.out; obtain ⟨n0, n1, n2, n3, n4, n5, n6⟩ := cc7_ b3.out; obtain ⟨n7, n8, n9, o0, o1, o2⟩ := cf6_ b3.out; have o3 := blk_frozen b3.out 6) | ((with_reducible refine gc_ 67 rfl ?_); refine gl_ (some 9) rfl Try.func67 #[.slice A0_0 l0_0.length c0_0, .slice A1_0 l1_0.length c1_0] ?_; (with_reducible refine (laws_eqByteS.calls k _ _ l0_0 _ _ l1_0 true _ ?side1 ?side2 ?side3 ?side4 A3.out).mono ?_); (case side1 => repeat (first | exact (yah HR0_0.out HB.out) | (with_reducible refine yai ?_ _) | (with_reducible refine yaj ?_ _) | (with_reducible refine Kd.C_drew ?_))); (case side2 => exact HC0_0.out); (case side3 => repeat (first | exact (yah HR1_0.out HB.out) | (with_reducible refine yai ?_ _) | (with_reducible refine yaj ?_ _) | (with_reducible refine Kd.C_drew ?_))); (case side4 => exact HC1_0.out); rintro e w' ⟨rfl, ⟨nd, rfl⟩⟩; refine ⟨_, rfl, ?_⟩))
  go_ret
  exact ⟨by first | rfl | (simp [*, errW_none, errW_some] <;> rfl), by repeat (with_reducible first | exact HB.out | apply yac | apply yab | apply yad | refine yae ?_ (Aside0.out ‹_›))⟩
 rw [if_pos c8] at H
 have A4 := beq_iff_eq.mpr c8; have A5 := bne_eq_false_iff_eq.mpr c8; clear c8
 by_cases c9 : a0_5 = a1_5
 ·
  rw [if_pos c9] at H
  have A6 := beq_iff_eq.mpr c9; have A7 := bne_eq_false_iff_eq.mpr c9; clear c9
  by_cases c10 : a0_6 = a1_6
  ·
   rw [if_pos c10] at H
   have d0 := beq_iff_eq.mpr c10; have d1 := bne_eq_false_iff_eq.mpr c10; clear c10; obtain rfl := Option.some.inj H
   go_enter Try.func19, Try.ntmps19
   go_wp2_with (first | ((with_reducible refine gd_ 2 rfl ?_); refine bx_ 2 rfl #[.slice A0_0 l0_0.length c0_0, .int .i64 a0_1, .int .i64 a0_2, .int .i64 a0_3, .int .i64 a0_4, .int .i64 a0_5, .int .i64 a0_6] 24 ?_; intro b4 hg w11 hbox hb; have b1 := yaa (hbox); have b6 := yaa ((by rw [hg]; exact (yaf (upH HB.out)) : w.heap.size ≤ b4)); replace HB := yaa (yag (upH HB.out) hb); have b9 := b6; clear hb hbox hg) | ((with_reducible refine gd_ 3 rfl ?_); refine bx_ 3 rfl #[.slice A1_0 l1_0.length c1_0, .int .i64 a1_1, .int .i64 a1_2, .int .i64 a1_3, .int .i64 a1_4, .int .i64 a1_5, .int .i64 a1_6] 24 ?_; intro b5 hg w12 hbox hb; have b3 := yaa (hbox); have b7 := yaa ((by rw [hg]; exact (yaf (by repeat (with_reducible first | exact HB.out | apply yac | apply yab | apply yad | refine yae ?_ (Aside0.out ‹_›)))) : w.heap.size ≤ b5)); replace HB := yaa (yag (by repeat (with_reducible first | exact HB.out | apply yac | apply yab | apply yad | refine yae ?_ (Aside0.out ‹_›))) hb); have c0 := b7; have b0 := yaa ((by rw [hg]; exact Nat.ne_of_lt (blk_lt (upB b1.out)) : b4 ≠ b5)); replace b1 := yaa (blk_below (upB b1.out) hb); have b2 := yaa b0.out.symm; clear hb hbox hg; have A8 := b0.out; have A9 := b2.out; obtain ⟨d2, d3, d4, d5, d6, d7, d8⟩ := cc7_ b1.out; obtain ⟨d9, e0, e1, e2, e3, e4, e5⟩ := cf7_ b1.out; obtain ⟨e6, e7, e8, e9, f0, f1, f2⟩ := cc7_ b3.out; obtain ⟨f3, f4, f5, f6, f7, f8⟩ := cf6_ b3.out; have f9 := blk_frozen b3.out 6) | ((with_reducible refine gc_ 67 rfl ?_); refine gl_ (some 9) rfl Try.func67 #[.slice A0_0 l0_0.length c0_0, .slice A1_0 l1_0.length c1_0] ?_; (with_reducible refine (laws_eqByteS.calls k _ _ l0_0 _ _ l1_0 true _ ?side1 ?side2 ?side3 ?side4 A3.out).mono ?_); (case side1 => repeat (first | exact (yah HR0_0.out HB.out) | (with_reducible refine yai ?_ _) | (with_reducible refine yaj ?_ _) | (with_reducible refine Kd.C_drew ?_))); (case side2 => exact HC0_0.out); (case side3 => repeat (first | exact (yah HR1_0.out HB.out) | (with_reducible refine yai ?_ _) | (with_reducible refine yaj ?_ _) | (with_reducible refine Kd.C_drew ?_))); (case side4 => exact HC1_0.out); rintro e w' ⟨rfl, ⟨nd, rfl⟩⟩; refine ⟨_, rfl, ?_⟩))
   go_ret
   exact ⟨by first | rfl | (simp [*, errW_none, errW_some] <;> rfl), by repeat (with_reducible first | exact HB.out | apply yac | apply yab | apply yad | refine yae ?_ (Aside0.out ‹_›))⟩
  rw [if_neg c10] at H
  have d0 := beq_eq_false_iff_ne.mpr c10; have d1 := bne_iff_ne.mpr c10; obtain rfl := Option.some.inj H
  go_enter Try.func19, Try.ntmps19
  go_wp2_with (first | ((with_reducible refine gd_ 2 rfl ?_); refine bx_ 2 rfl #[.slice A0_0 l0_0.length c0_0, .int .i64 a0_1, .int .i64 a0_2, .int .i64 a0_3, .int .i64 a0_4, .int .i64 a0_5, .int .i64 a0_6] 24 ?_; intro b4 hg w16 hbox hb; have b1 := yaa (hbox); have b6 := yaa ((by rw [hg]; exact (yaf (upH HB.out)) : w.heap.size ≤ b4)); replace HB := yaa (yag (upH HB.out) hb); have b9 := b6; clear hb hbox hg) | ((with_reducible refine gd_ 3 rfl ?_); refine bx_ 3 rfl #[.slice A1_0 l1_0.length c1_0, .int .i64 a1_1, .int .i64 a1_2, .int .i64 a1_3, .int .i64 a1_4, .int .i64 a1_5, .int .i64 a1_6] 24 ?_; intro b5 hg w17 hbox hb; have b3 := yaa (hbox); have b7 := yaa ((by rw [hg]; exact (yaf (by repeat (with_reducible first | exact HB.out | apply yac | apply yab | apply yad | refine yae ?_ (Aside0.out ‹_›)))) : w.heap.size ≤ b5)); replace HB := yaa (yag (by repeat (with_reducible first | exact HB.out | apply yac | apply yab | apply yad | refine yae ?_ (Aside0.out ‹_›))) hb); have c0 := b7; have b0 := yaa ((by rw [hg]; exact Nat.ne_of_lt (blk_lt (upB b1.out)) : b4 ≠ b5)); replace b1 := yaa (blk_below (upB b1.out) hb); have b2 := yaa b0.out.symm; clear hb hbox hg; have B0 := b0.out; have B1 := b2.out; obtain ⟨g0, g1, g2, g3, g4, g5, g6⟩ := cc7_ b1.out; obtain ⟨g7, g8, g9, h0, h1, h2, h3⟩ := cf7_ b1.out; obtain ⟨h4, h5, h6, h7, h8, h9, i0⟩ := cc7_ b3.out; obtain ⟨i1, i2, i3, i4, i5, i6⟩ := cf6_ b3.out; have i7 := blk_frozen b3.out 6) | ((with_reducible refine gc_ 67 rfl ?_); refine gl_ (some 9) rfl Try.func67 #[.slice A0_0 l0_0.length c0_0, .slice A1_0 l1_0.length c1_0] ?_; (with_reducible refine (laws_eqByteS.calls k _ _ l0_0 _ _ l1_0 true _ ?side1 ?side2 ?side3 ?side4 A3.out).mono ?_); (case side1 => repeat (first | exact (yah HR0_0.out HB.out) | (with_reducible refine yai ?_ _) | (with_reducible refine yaj ?_ _) | (with_reducible refine Kd.C_drew ?_))); (case side2 => exact HC0_0.out); (case side3 => repeat (first | exact (yah HR1_0.out HB.out) | (with_reducible refine yai ?_ _) | (with_reducible refine yaj ?_ _) | (with_reducible refine Kd.C_drew ?_))); (case side4 => exact HC1_0.out); rintro e w' ⟨rfl, ⟨nd, rfl⟩⟩; refine ⟨_, rfl, ?_⟩))
  go_ret
  exact ⟨by first | rfl | (simp [*, errW_none, errW_some] <;> rfl), by repeat (with_reducible first | exact HB.out | apply yac | apply yab | apply yad | refine yae ?_ (Aside0.out ‹_›))⟩
 rw [if_neg c9] at H
 have A6 := beq_eq_false_iff_ne.mpr c9; have A7 := bne_iff_ne.mpr c9; obtain rfl := Option.some.inj H
 go_enter Try.func19, Try.ntmps19
 go_wp2_with (first | ((with_reducible refine gd_ 2 rfl ?_); refine bx_ 2 rfl #[.slice A0_0 l0_0.length c0_0, .int .i64 a0_1, .int .i64 a0_2, .int .i64 a0_3, .int .i64 a0_4, .int .i64 a0_5, .int .i64 a0_6] 24 ?_; intro b4 hg w21 hbox hb; have b1 := yaa (hbox); have b6 := yaa ((by rw [hg]; exact (yaf (upH HB.out)) : w.heap.size ≤ b4)); replace HB := yaa (yag (upH HB.out) hb); have b9 := b6; clear hb hbox hg) | ((with_reducible refine gd_ 3 rfl ?_); refine bx_ 3 rfl #[.slice A1_0 l1_0.length c1_0, .int .i64 a1_1, .int .i64 a1_2, .int .i64 a1_3, .int .i64 a1_4, .int .i64 a1_5, .int .i64 a1_6] 24 ?_; intro b5 hg w22 hbox hb; have b3 := yaa (hbox); have b7 := yaa ((by rw [hg]; exact (yaf (by repeat (with_reducible first | exact HB.out | apply yac | apply yab | apply yad | refine yae ?_ (Aside0.out ‹_›)))) : w.heap.size ≤ b5)); replace HB := yaa (yag (by repeat (with_reducible first | exact HB.out | apply yac | apply yab | apply yad | refine yae ?_ (Aside0.out ‹_›))) hb); have c0 := b7; have b0 := yaa ((by rw [hg]; exact Nat.ne_of_lt (blk_lt (upB b1.out)) : b4 ≠ b5)); replace b1 := yaa (blk_below (upB b1.out) hb); have b2 := yaa b0.out.symm; clear hb hbox hg; have B2 := b0.out; have B3 := b2.out; obtain ⟨i8, i9, j0, j1, j2, j3, j4⟩ := cc7_ b1.out; obtain ⟨j5, j6, j7, j8, j9, k0, k1⟩ := cf7_ b1.out; obtain ⟨k2, k3, k4, k5, k6, k7, k8⟩ := cc7_ b3.out; obtain ⟨k9, l0, l1, l2, l3, l4⟩ := cf6_ b3.out; have l5 := blk_frozen b3.out 6) | ((with_reducible refine gc_ 67 rfl ?_); refine gl_ (some 9) rfl Try.func67 #[.slice A0_0 l0_0.length c0_0, .slice A1_0 l1_0.length c1_0] ?_; (with_reducible refine (laws_eqByteS.calls k _ _ l0_0 _ _ l1_0 true _ ?side1 ?side2 ?side3 ?side4 A3.out).mono ?_); (case side1 => repeat (first | exact (yah HR0_0.out HB.out) | (with_reducible refine yai ?_ _) | (with_reducible refine yaj ?_ _) | (with_reducible refine Kd.C_drew ?_))); (case side2 => exact HC0_0.out); (case side3 => repeat (first | exact (yah HR1_0.out HB.out) | (with_reducible refine yai ?_ _) | (with_reducible refine yaj ?_ _) | (with_reducible refine Kd.C_drew ?_))); (case side4 => exact HC1_0.out); rintro e w' ⟨rfl, ⟨nd, rfl⟩⟩; refine ⟨_, rfl, ?_⟩))
 go_ret
 exact ⟨by first | rfl | (simp [*, errW_none, errW_some] <;> rfl), by repeat (with_reducible first | exact HB.out | apply yac | apply yab | apply yad | refine yae ?_ (Aside0.out ‹_›))⟩
end
section
def impl_within.f (a0 : Int) (a1 : Int) (a2 : Int) : Option (Bool) := if a0 ≥ a1 then (some (decide (a0 ≤ a2))) else (some false)
set_option maxHeartbeats 8000000 in
set_option maxRecDepth 100000 in
theorem impl_within.calls (a0 : Int) (a1 : Int) (a2 : Int) (r : Bool) (w : World) (h : impl_within.f a0 a1 a2 = some r) :
    Calls Try.prog 62 #[.int .i64 a0, .int .i64 a1, .int .i64 a2] w fun e w' => e = .returned (.bool r) ∧ Drawn0 w w' := by
  have H : (if a0 ≥ a1 then (some (decide (a0 ≤ a2))) else (some false)) = some r := h; clear h
  by_cases c4 : a0 ≥ a1
  · rw [if_pos c4] at H
    have c4b0 : decide (a1 ≤ a0) = true := decide_eq_true c4; clear c4; obtain rfl := Option.some.inj H
    go_enter Try.func62, Try.ntmps62
    go_wp2
    go_ret
    exact ⟨by first | rfl | (simp; done) | (simp [*]; done), by repeat (first | exact Drawn0.refl _ | apply Drawn0.step)⟩
  · rw [if_neg c4] at H
    have c4b0 : decide (a1 ≤ a0) = false := decide_eq_false c4; clear c4; obtain rfl := Option.some.inj H
    go_enter Try.func62, Try.ntmps62
    go_wp2
    go_ret
    exact ⟨by first | rfl | (simp; done) | (simp [*]; done), by repeat (first | exact Drawn0.refl _ | apply Drawn0.step)⟩
end
section
open Go.Proofs.YtgpkkkmapgnhkaaW.PrintWords.Aside0 renaming mk → yaa
def impl_CfgOk.f (l0_0 : List Int) (a0_1 : Int) (a0_2 : Int) (a0_3 : Int) (a0_4 : Int) (a0_5 : Int) (a0_6 : Int) : Option (Bool) := if (l0_0.length : Int) ≤ 32 then ((impl_within.f a0_1 1 9).bind fun t102 => (if t102 = true then ((impl_within.f a0_2 1 99).bind fun t103 => (if t103 = true then ((impl_within.f a0_3 1 4).bind fun t104 => (if t104 = true then ((impl_within.f a0_4 1 999).bind fun t105 => (if t105 = true then ((impl_within.f a0_5 1 3).bind fun t106 => (if t106 = true then ((impl_within.f a0_6 1 999).bind fun t107 => (some t107)) else (some false))) else (some false))) else (some false))) else (some false))) else (some false))) else (some false)
set_option maxHeartbeats 8000000 in
set_option maxRecDepth 100000 in
theorem impl_CfgOk.calls (A0_0 : Option Addr) (c0_0 : Nat) (l0_0 : List Int) (a0_1 : Int) (a0_2 : Int) (a0_3 : Int) (a0_4 : Int) (a0_5 : Int) (a0_6 : Int) (r : Bool) (w : World) (hr0_0 : Kd.C (Kd.int .u8) w A0_0 l0_0.length l0_0) (hc0_0 : l0_0.length ≤ c0_0) (h : impl_CfgOk.f l0_0 a0_1 a0_2 a0_3 a0_4 a0_5 a0_6 = some r) :
  Calls Try.prog 14 #[.agg #[.slice A0_0 l0_0.length c0_0, .int .i64 a0_1, .int .i64 a0_2, .int .i64 a0_3, .int .i64 a0_4, .int .i64 a0_5, .int .i64 a0_6]] w fun e w' => e = .returned (.bool r) ∧ Below w.heap.size w w' := by
 have hu24 := Try.underlying24; have HR0_0 := yaa hr0_0; have HC0_0 := yaa hc0_0; clear hr0_0 hc0_0; have HB := yaa (Below.refl w.heap.size w); have H : (if (l0_0.length : Int) ≤ 32 then ((impl_within.f a0_1 1 9).bind fun a6 => (if a6 = true then ((impl_within.f a0_2 1 99).bind fun a7 => (if a7 = true then ((impl_within.f a0_3 1 4).bind fun a8 => (if a8 = true then ((impl_within.f a0_4 1 999).bind fun a9 => (if a9 = true then ((impl_within.f a0_5 1 3).bind fun b0 => (if b0 = true then ((impl_within.f a0_6 1 999).bind fun b1 => (some b1)) else (some false))) else (some false))) else (some false))) else (some false))) else (some false))) else (some false)) = some r := h; clear h
 by_cases c2 : (l0_0.length : Int) ≤ 32
 rotate_left
 ·
  rw [if_neg c2] at H
  have l4 : decide ((l0_0.length : Int) ≤ 32) = false := decide_eq_false c2; have l5 : decide (l0_0.length ≤ 32) = false := decide_eq_false (by omega); clear c2; obtain rfl := Option.some.inj H
  go_enter Try.func14, Try.ntmps14
  go_wp2_with (first | ((with_reducible refine gd_ 1 rfl ?_); refine bx_ 1 rfl #[.slice A0_0 l0_0.length c0_0, .int .i64 a0_1, .int .i64 a0_2, .int .i64 a0_3, .int .i64 a0_4, .int .i64 a0_5, .int .i64 a0_6] 24 ?_; intro a1 hg w26 hbox hb; have a0 := yaa (hbox); have a2 := yaa ((by rw [hg]; exact (below_size (upH HB.out)) : w.heap.size ≤ a1)); replace HB := yaa (below_step (upH HB.out) hb); have a3 := a2; clear hb hbox hg; obtain ⟨k0, k1, k2, k3, k4, k5, k6⟩ := cc7_ a0.out; obtain ⟨k7, k8, k9, l0, l1, l2⟩ := cf6_ a0.out; have l3 := blk_frozen a0.out 6))
  go_ret
  exact ⟨by first | rfl | (simp [*, errW_none, errW_some] <;> rfl), by repeat (with_reducible first | exact HB.out | apply below_alloc | apply pw_below_drewN | apply below_drew1 | refine below_set ?_ (Aside0.out ‹_›))⟩
 rw [if_pos c2] at H
 have l4 : decide ((l0_0.length : Int) ≤ 32) = true := decide_eq_true c2; have l5 : decide (l0_0.length ≤ 32) = true := decide_eq_true (by omega); clear c2; obtain ⟨a6, A3, H⟩ := bindA H; (try dsimp only at H)
 by_cases c4 : a6 = true
 rotate_left
 ·
  replace c4 := Bool.eq_false_iff.mpr c4
  subst c4
  rw [if_neg (show ¬ (false = true) by decide)] at H
  obtain rfl := Option.some.inj H
  go_enter Try.func14, Try.ntmps14
  go_wp2_with (first | ((with_reducible refine gd_ 1 rfl ?_); refine bx_ 1 rfl #[.slice A0_0 l0_0.length c0_0, .int .i64 a0_1, .int .i64 a0_2, .int .i64 a0_3, .int .i64 a0_4, .int .i64 a0_5, .int .i64 a0_6] 24 ?_; intro a1 hg w24 hbox hb; have a0 := yaa (hbox); have a2 := yaa ((by rw [hg]; exact (below_size (upH HB.out)) : w.heap.size ≤ a1)); replace HB := yaa (below_step (upH HB.out) hb); have a3 := a2; clear hb hbox hg; obtain ⟨i6, i7, i8, i9, j0, j1, j2⟩ := cc7_ a0.out; obtain ⟨j3, j4, j5, j6, j7, j8⟩ := cf6_ a0.out; have j9 := blk_frozen a0.out 6) | (go_at_call 62; (with_reducible refine (impl_within.calls a0_1 1 9 false _ A3.out).mono ?_); rintro e w' ⟨rfl, ⟨nd, rfl⟩⟩))
  go_ret
  exact ⟨by first | rfl | (simp [*, errW_none, errW_some] <;> rfl), by repeat (with_reducible first | exact HB.out | apply below_alloc | apply pw_below_drewN | apply below_drew1 | refine below_set ?_ (Aside0.out ‹_›))⟩
 subst c4
 rw [if_pos rfl] at H
 obtain ⟨a7, A5, H⟩ := bindA H; (try dsimp only at H)
 by_cases c6 : a7 = true
 rotate_left
 ·
  replace c6 := Bool.eq_false_iff.mpr c6
  subst c6
  rw [if_neg (show ¬ (false = true) by decide)] at H
  obtain rfl := Option.some.inj H
  go_enter Try.func14, Try.ntmps14
  go_wp2_with (first | ((with_reducible refine gd_ 1 rfl ?_); refine bx_ 1 rfl #[.slice A0_0 l0_0.length c0_0, .int .i64 a0_1, .int .i64 a0_2, .int .i64 a0_3, .int .i64 a0_4, .int .i64 a0_5, .int .i64 a0_6] 24 ?_; intro a1 hg w22 hbox hb; have a0 := yaa (hbox); have a2 := yaa ((by rw [hg]; exact (below_size (upH HB.out)) : w.heap.size ≤ a1)); replace HB := yaa (below_step (upH HB.out) hb); have a3 := a2; clear hb hbox hg; obtain ⟨h2, h3, h4, h5, h6, h7, h8⟩ := cc7_ a0.out; obtain ⟨h9, i0, i1, i2, i3, i4⟩ := cf6_ a0.out; have i5 := blk_frozen a0.out 6) | (go_at_call 62; (with_reducible refine (impl_within.calls a0_1 1 9 true _ A3.out).mono ?_); rintro e w' ⟨rfl, ⟨nd, rfl⟩⟩) | (go_at_call 62; (with_reducible refine (impl_within.calls a0_2 1 99 false _ A5.out).mono ?_); rintro e w' ⟨rfl, ⟨nd, rfl⟩⟩))
  go_ret
  exact ⟨by first | rfl | (simp [*, errW_none, errW_some] <;> rfl), by repeat (with_reducible first | exact HB.out | apply below_alloc | apply pw_below_drewN | apply below_drew1 | refine below_set ?_ (Aside0.out ‹_›))⟩
 subst c6
 rw [if_pos rfl] at H
 obtain ⟨a8, A7, H⟩ := bindA H; (try dsimp only at H)
 by_cases c8 : a8 = true
 rotate_left
 ·
  replace c8 := Bool.eq_false_iff.mpr c8
  subst c8
  rw [if_neg (show ¬ (false = true) by decide)] at H
  obtain rfl := Option.some.inj H
  go_enter Try.func14, Try.ntmps14
  go_wp2_with (first | ((with_reducible refine gd_ 1 rfl ?_); refine bx_ 1 rfl #[.slice A0_0 l0_0.length c0_0, .int .i64 a0_1, .int .i64 a0_2, .int .i64 a0_3, .int .i64 a0_4, .int .i64 a0_5, .int .i64 a0_6] 24 ?_; intro a1 hg w20 hbox hb; have a0 := yaa (hbox); have a2 := yaa ((by rw [hg]; exact (below_size (upH HB.out)) : w.heap.size ≤ a1)); replace HB := yaa (below_step (upH HB.out) hb); have a3 := a2; clear hb hbox hg; obtain ⟨f8, f9, g0, g1, g2, g3, g4⟩ := cc7_ a0.out; obtain ⟨g5, g6, g7, g8, g9, h0⟩ := cf6_ a0.out; have h1 := blk_frozen a0.out 6) | (go_at_call 62; (with_reducible refine (impl_within.calls a0_1 1 9 true _ A3.out).mono ?_); rintro e w' ⟨rfl, ⟨nd, rfl⟩⟩) | (go_at_call 62; (with_reducible refine (impl_within.calls a0_2 1 99 true _ A5.out).mono ?_); rintro e w' ⟨rfl, ⟨nd, rfl⟩⟩) | (go_at_call 62; (with_reducible refine (impl_within.calls a0_3 1 4 false _ A7.out).mono ?_); rintro e w' ⟨rfl, ⟨nd, rfl⟩⟩))
  go_ret
  exact ⟨by first | rfl | (simp [*, errW_none, errW_some] <;> rfl), by repeat (with_reducible first | exact HB.out | apply below_alloc | apply pw_below_drewN | apply below_drew1 | refine below_set ?_ (Aside0.out ‹_›))⟩
 subst c8
 rw [if_pos rfl] at H
 obtain ⟨a9, A9, H⟩ := bindA H; (try dsimp only at H)
 by_cases c10 : a9 = true
 ·
  subst c10
  rw [if_pos rfl] at H
  obtain ⟨b0, A11, H⟩ := bindA H; (try dsimp only at H)
  by_cases c12 : b0 = true
  ·
   subst c12
   rw [if_pos rfl] at H
   obtain ⟨b1, A13, H⟩ := bindA H; (try dsimp only at H); obtain rfl := Option.some.inj H
   go_enter Try.func14, Try.ntmps14
   go_wp2_with (first | ((with_reducible refine gd_ 1 rfl ?_); refine bx_ 1 rfl #[.slice A0_0 l0_0.length c0_0, .int .i64 a0_1, .int .i64 a0_2, .int .i64 a0_3, .int .i64 a0_4, .int .i64 a0_5, .int .i64 a0_6] 24 ?_; intro a1 hg w14 hbox hb; have a0 := yaa (hbox); have a2 := yaa ((by rw [hg]; exact (below_size (upH HB.out)) : w.heap.size ≤ a1)); replace HB := yaa (below_step (upH HB.out) hb); have a3 := a2; clear hb hbox hg; obtain ⟨b2, b3, b4, b5, b6, b7, b8⟩ := cc7_ a0.out; obtain ⟨b9, c0, c1, c3, c5, c7⟩ := cf6_ a0.out; have c9 := blk_frozen a0.out 6) | (go_at_call 62; (with_reducible refine (impl_within.calls a0_1 1 9 true _ A3.out).mono ?_); rintro e w' ⟨rfl, ⟨nd, rfl⟩⟩) | (go_at_call 62; (with_reducible refine (impl_within.calls a0_2 1 99 true _ A5.out).mono ?_); rintro e w' ⟨rfl, ⟨nd, rfl⟩⟩) | (go_at_call 62; (with_reducible refine (impl_within.calls a0_3 1 4 true _ A7.out).mono ?_); rintro e w' ⟨rfl, ⟨nd, rfl⟩⟩) | (go_at_call 62; (with_reducible refine (impl_within.calls a0_4 1 999 true _ A9.out).mono ?_); rintro e w' ⟨rfl, ⟨nd, rfl⟩⟩) | (go_at_call 62; (with_reducible refine (impl_within.calls a0_5 1 3 true _ A11.out).mono ?_); rintro e w' ⟨rfl, ⟨nd, rfl⟩⟩) | (go_at_call 62; (with_reducible refine (impl_within.calls a0_6 1 999 b1 _ A13.out).mono ?_); rintro e w' ⟨rfl, ⟨nd, rfl⟩⟩))
   go_ret
   exact ⟨by first | rfl | (simp [*, errW_none, errW_some] <;> rfl), by repeat (with_reducible first | exact HB.out | apply below_alloc | apply pw_below_drewN | apply below_drew1 | refine below_set ?_ (Aside0.out ‹_›))⟩
  replace c12 := Bool.eq_false_iff.mpr c12
  subst c12
  rw [if_neg (show ¬ (false = true) by decide)] at H
  obtain rfl := Option.some.inj H
  go_enter Try.func14, Try.ntmps14
  go_wp2_with (first | ((with_reducible refine gd_ 1 rfl ?_); refine bx_ 1 rfl #[.slice A0_0 l0_0.length c0_0, .int .i64 a0_1, .int .i64 a0_2, .int .i64 a0_3, .int .i64 a0_4, .int .i64 a0_5, .int .i64 a0_6] 24 ?_; intro a1 hg w16 hbox hb; have a0 := yaa (hbox); have a2 := yaa ((by rw [hg]; exact (below_size (upH HB.out)) : w.heap.size ≤ a1)); replace HB := yaa (below_step (upH HB.out) hb); have a3 := a2; clear hb hbox hg; obtain ⟨d0, d1, d2, d3, d4, d5, d6⟩ := cc7_ a0.out; obtain ⟨d7, d8, d9, e0, e1, e2⟩ := cf6_ a0.out; have e3 := blk_frozen a0.out 6) | (go_at_call 62; (with_reducible refine (impl_within.calls a0_1 1 9 true _ A3.out).mono ?_); rintro e w' ⟨rfl, ⟨nd, rfl⟩⟩) | (go_at_call 62; (with_reducible refine (impl_within.calls a0_2 1 99 true _ A5.out).mono ?_); rintro e w' ⟨rfl, ⟨nd, rfl⟩⟩) | (go_at_call 62; (with_reducible refine (impl_within.calls a0_3 1 4 true _ A7.out).mono ?_); rintro e w' ⟨rfl, ⟨nd, rfl⟩⟩) | (go_at_call 62; (with_reducible refine (impl_within.calls a0_4 1 999 true _ A9.out).mono ?_); rintro e w' ⟨rfl, ⟨nd, rfl⟩⟩) | (go_at_call 62; (with_reducible refine (impl_within.calls a0_5 1 3 false _ A11.out).mono ?_); rintro e w' ⟨rfl, ⟨nd, rfl⟩⟩))
  go_ret
  exact ⟨by first | rfl | (simp [*, errW_none, errW_some] <;> rfl), by repeat (with_reducible first | exact HB.out | apply below_alloc | apply pw_below_drewN | apply below_drew1 | refine below_set ?_ (Aside0.out ‹_›))⟩
 replace c10 := Bool.eq_false_iff.mpr c10
 subst c10
 rw [if_neg (show ¬ (false = true) by decide)] at H
 obtain rfl := Option.some.inj H
 go_enter Try.func14, Try.ntmps14
 go_wp2_with (first | ((with_reducible refine gd_ 1 rfl ?_); refine bx_ 1 rfl #[.slice A0_0 l0_0.length c0_0, .int .i64 a0_1, .int .i64 a0_2, .int .i64 a0_3, .int .i64 a0_4, .int .i64 a0_5, .int .i64 a0_6] 24 ?_; intro a1 hg w18 hbox hb; have a0 := yaa (hbox); have a2 := yaa ((by rw [hg]; exact (below_size (upH HB.out)) : w.heap.size ≤ a1)); replace HB := yaa (below_step (upH HB.out) hb); have a3 := a2; clear hb hbox hg; obtain ⟨e4, e5, e6, e7, e8, e9, f0⟩ := cc7_ a0.out; obtain ⟨f1, f2, f3, f4, f5, f6⟩ := cf6_ a0.out; have f7 := blk_frozen a0.out 6) | (go_at_call 62; (with_reducible refine (impl_within.calls a0_1 1 9 true _ A3.out).mono ?_); rintro e w' ⟨rfl, ⟨nd, rfl⟩⟩) | (go_at_call 62; (with_reducible refine (impl_within.calls a0_2 1 99 true _ A5.out).mono ?_); rintro e w' ⟨rfl, ⟨nd, rfl⟩⟩) | (go_at_call 62; (with_reducible refine (impl_within.calls a0_3 1 4 true _ A7.out).mono ?_); rintro e w' ⟨rfl, ⟨nd, rfl⟩⟩) | (go_at_call 62; (with_reducible refine (impl_within.calls a0_4 1 999 false _ A9.out).mono ?_); rintro e w' ⟨rfl, ⟨nd, rfl⟩⟩))
 go_ret
 exact ⟨by first | rfl | (simp [*, errW_none, errW_some] <;> rfl), by repeat (with_reducible first | exact HB.out | apply below_alloc | apply pw_below_drewN | apply below_drew1 | refine below_set ?_ (Aside0.out ‹_›))⟩
end
section
open Go.Proofs.YtgpkkkmapgnhkaaW.PrintWords.Aside0 renaming mk → yaa
def impl_TenNew.f (l0_0 : List Int) (a0_1 : Int) (a0_2 : Int) (a0_3 : Int) (a0_4 : Int) (a0_5 : Int) (a0_6 : Int) : Option (Int × Int × Int × Int × (List (S124)) × (List (S156)) × List ByteArray × (List (S158))) := (impl_CfgOk.f l0_0 a0_1 a0_2 a0_3 a0_4 a0_5 a0_6).bind fun t103 => (if t103 = true then (some (0, a0_1, 0, 0, ([] : List (S124)), ([] : List (S156)), ([] : List ByteArray), ([] : List (S158)))) else (some (0, 0, 0, 0, ([] : List (S124)), ([] : List (S156)), ([] : List ByteArray), ([] : List (S158)))))
set_option maxHeartbeats 8000000 in
set_option maxRecDepth 100000 in
theorem impl_TenNew.calls (A0_0 : Option Addr) (c0_0 : Nat) (l0_0 : List Int) (a0_1 : Int) (a0_2 : Int) (a0_3 : Int) (a0_4 : Int) (a0_5 : Int) (a0_6 : Int) (r1 : Int) (r2 : Int) (r3 : Int) (r4 : Int) (r5 : List (S124)) (r6 : List (S156)) (r7 : List ByteArray) (r8 : List (S158)) (w : World) (hr0_0 : Kd.C (Kd.int .u8) w A0_0 l0_0.length l0_0) (hc0_0 : l0_0.length ≤ c0_0) (h : impl_TenNew.f l0_0 a0_1 a0_2 a0_3 a0_4 a0_5 a0_6 = some (r1, r2, r3, r4, r5, r6, r7, r8)) :
  Calls Try.prog 36 #[.agg #[.slice A0_0 l0_0.length c0_0, .int .i64 a0_1, .int .i64 a0_2, .int .i64 a0_3, .int .i64 a0_4, .int .i64 a0_5, .int .i64 a0_6]] w fun e w' => ∃ v4_ v5_ v6_ v7_ : Value, e = .returned (.agg #[.int .i64 r1, .int .i64 r2, .int .i64 r3, .int .i64 r4, v4_, v5_, v6_, v7_]) ∧ Kd.S k124 124 w' w.heap.size (fun _ => True) v4_ r5 ∧ Kd.S k156 156 w' w.heap.size (fun _ => True) v5_ r6 ∧ Kd.R Kd.string 9 w' w.heap.size (fun _ => True) v6_ r7 ∧ Kd.S k158 158 w' w.heap.size (fun _ => True) v7_ r8 ∧ Below w.heap.size w w' := by
 have hu24 := Try.underlying24; have hu63 := Try.underlying63; have HR0_0 := yaa hr0_0; have HC0_0 := yaa hc0_0; clear hr0_0 hc0_0; have HB := yaa (Below.refl w.heap.size w); have H : ((impl_CfgOk.f l0_0 a0_1 a0_2 a0_3 a0_4 a0_5 a0_6).bind fun a8 => (if a8 = true then (some (0, a0_1, 0, 0, ([] : List (S124)), ([] : List (S156)), ([] : List ByteArray), ([] : List (S158)))) else (some (0, 0, 0, 0, ([] : List (S124)), ([] : List (S156)), ([] : List ByteArray), ([] : List (S158)))))) = some (r1, r2, r3, r4, r5, r6, r7, r8) := h; clear h; obtain ⟨a8, A2, H⟩ := bindA H; (try dsimp only at H)
 by_cases c3 : a8 = true
 ·
  subst c3
  rw [if_pos rfl] at H
  simp only [Option.some.injEq, Prod.mk.injEq] at H
  obtain ⟨rfl, rfl, rfl, rfl, rfl, rfl, rfl, rfl⟩ := H
  go_enter Try.func36, Try.ntmps36
  go_wp2_with (first | ((with_reducible refine gd_ 1 rfl ?_); refine bx_ 1 rfl #[.slice A0_0 l0_0.length c0_0, .int .i64 a0_1, .int .i64 a0_2, .int .i64 a0_3, .int .i64 a0_4, .int .i64 a0_5, .int .i64 a0_6] 24 ?_; intro a5 hg w4 hbox hb; have a0 := yaa (hbox); have a6 := yaa ((by rw [hg]; exact (below_size (upH HB.out)) : w.heap.size ≤ a5)); replace HB := yaa (below_step (upH HB.out) hb); have a9 := a6; clear hb hbox hg) | ((with_reducible refine gd_ 2 rfl ?_); refine bx_ 2 rfl #[.int .i64 0, .int .i64 0, .int .i64 0, .int .i64 0, .slice none 0 0, .slice none 0 0, .slice none 0 0, .slice none 0 0] 63 ?_; intro a4 hg w5 hbox hb; have a1 := yaa (hbox); have a7 := yaa ((by rw [hg]; exact (below_size (by repeat (with_reducible first | exact HB.out | apply below_alloc | apply pw_below_drewN | apply below_drew1 | refine below_set ?_ (Aside0.out ‹_›)))) : w.heap.size ≤ a4)); replace HB := yaa (below_step (by repeat (with_reducible first | exact HB.out | apply below_alloc | apply pw_below_drewN | apply below_drew1 | refine below_set ?_ (Aside0.out ‹_›))) hb); have b0 := a7; have a2 := yaa ((by rw [hg]; exact Nat.ne_of_lt (blk_lt (upB a0.out)) : a5 ≠ a4)); replace a0 := yaa (blk_below (upB a0.out) hb); have a3 := yaa a2.out.symm; clear hb hbox hg; have j2 := a2.out; have j3 := a3.out; obtain ⟨g0, g1, g2, g3, g4, g5, g6⟩ := cc7_ a0.out; obtain ⟨g7, g8, g9, h0, h1, h2⟩ := cf6_ a0.out; have h4 := blk_frozen a0.out 6) | ((with_reducible refine gc_ 14 rfl ?_); refine gl_ (some 4) rfl Try.func14 #[.agg #[.slice A0_0 l0_0.length c0_0, .int .i64 a0_1, .int .i64 a0_2, .int .i64 a0_3, .int .i64 a0_4, .int .i64 a0_5, .int .i64 a0_6]] ?_; (with_reducible refine (impl_CfgOk.calls _ _ l0_0 a0_1 a0_2 a0_3 a0_4 a0_5 a0_6 true _ ?side1 ?side2 A2.out).mono ?_); (case side1 => repeat (first | exact (Kd.C_below HR0_0.out HB.out) | (with_reducible refine Kd.C_alloc ?_ _) | (with_reducible refine Kd.C_drewN ?_ _) | (with_reducible refine Kd.C_drew ?_))); (case side2 => exact HC0_0.out); rintro e w8 ⟨rfl, hb⟩; refine ⟨_, rfl, ?_⟩; replace a0 := yaa (blk_below (upB a0.out) hb); replace a1 := yaa (blk_below (upB a1.out) hb); replace HB := yaa (below_step (by repeat (with_reducible first | exact HB.out | apply below_alloc | apply pw_below_drewN | apply below_drew1 | refine below_set ?_ (Aside0.out ‹_›))) hb); (try clear hb); obtain ⟨h5, h6, h7, h8, h9, i0, i1⟩ := cc7_ a0.out; obtain ⟨i2, i3, i4, i5, i6, i7, i8⟩ := cf7_ a0.out; obtain ⟨b3, b4, b5, b6, b7, b8, b9, c0⟩ := cc8_ a1.out; obtain ⟨c1, c2, c4, c5, c6, c7, c8⟩ := cf7_ a1.out; have c9 := blk_frozen a1.out 7))
  refine bodyPost_ret (results_cell_row rfl _ _ a4 63 #[.int .i64 0, .int .i64 a0_1, .int .i64 0, .int .i64 0, .slice none 0 0, .slice none 0 0, .slice none 0 0, .slice none 0 0] (0, 0) _ rfl (by (repeat refine oneB ?_); refine blk_put (cs := #[.int .i64 0, .int .i64 a0_1, .int .i64 0, .int .i64 0, .slice none 0 0, .slice none 0 0, .slice none 0 0, .slice none 0 0]) ?_ 7 _ rfl; refine blk_put (cs := #[.int .i64 0, .int .i64 a0_1, .int .i64 0, .int .i64 0, .slice none 0 0, .slice none 0 0, .slice none 0 0, .slice none 0 0]) ?_ 6 _ rfl; refine blk_put (cs := #[.int .i64 0, .int .i64 a0_1, .int .i64 0, .int .i64 0, .slice none 0 0, .slice none 0 0, .slice none 0 0, .slice none 0 0]) ?_ 5 _ rfl; refine blk_put (cs := #[.int .i64 0, .int .i64 a0_1, .int .i64 0, .int .i64 0, .slice none 0 0, .slice none 0 0, .slice none 0 0, .slice none 0 0]) ?_ 4 _ rfl; refine blk_put (cs := #[.int .i64 0, .int .i64 a0_1, .int .i64 0, .int .i64 0, .slice none 0 0, .slice none 0 0, .slice none 0 0, .slice none 0 0]) ?_ 3 _ rfl; refine blk_put (cs := #[.int .i64 0, .int .i64 a0_1, .int .i64 0, .int .i64 0, .slice none 0 0, .slice none 0 0, .slice none 0 0, .slice none 0 0]) ?_ 2 _ rfl; refine blk_put (cs := #[.int .i64 0, .int .i64 0, .int .i64 0, .int .i64 0, .slice none 0 0, .slice none 0 0, .slice none 0 0, .slice none 0 0]) ?_ 1 _ rfl; refine blk_put (cs := #[.int .i64 0, .int .i64 0, .int .i64 0, .int .i64 0, .slice none 0 0, .slice none 0 0, .slice none 0 0, .slice none 0 0]) ?_ 0 _ rfl; exact upB a1.out) Try.underlying63 rfl (by kernel_rfl)) rfl ?_
  exact ⟨_, _, _, _, by first | rfl | (simp [*, errW_none, errW_some] <;> rfl), by first | exact Kd.S_nil _ _ _ _ _ | exact Kd.N_nil _ _ _ _ _ | exact Kd.V_nil _ _ _ _ _ | exact Kd.Q_nil _ _ _ _ _ | exact Kd.R_nil _ _ _ _ _, by first | exact Kd.S_nil _ _ _ _ _ | exact Kd.N_nil _ _ _ _ _ | exact Kd.V_nil _ _ _ _ _ | exact Kd.Q_nil _ _ _ _ _ | exact Kd.R_nil _ _ _ _ _, by first | exact Kd.R_nil _ _ _ _ _ | exact Kd.N_nil _ _ _ _ _ | exact Kd.V_nil _ _ _ _ _ | exact Kd.Q_nil _ _ _ _ _ | exact Kd.S_nil _ _ _ _ _, by first | exact Kd.S_nil _ _ _ _ _ | exact Kd.N_nil _ _ _ _ _ | exact Kd.V_nil _ _ _ _ _ | exact Kd.Q_nil _ _ _ _ _ | exact Kd.R_nil _ _ _ _ _, by repeat (with_reducible first | exact HB.out | apply below_alloc | apply pw_below_drewN | apply below_drew1 | refine below_set ?_ (Aside0.out ‹_›))⟩
 replace c3 := Bool.eq_false_iff.mpr c3
 subst c3
 rw [if_neg (show ¬ (false = true) by decide)] at H
 simp only [Option.some.injEq, Prod.mk.injEq] at H
 obtain ⟨rfl, rfl, rfl, rfl, rfl, rfl, rfl, rfl⟩ := H
 go_enter Try.func36, Try.ntmps36
 go_wp2_with (first | ((with_reducible refine gd_ 1 rfl ?_); refine bx_ 1 rfl #[.slice A0_0 l0_0.length c0_0, .int .i64 a0_1, .int .i64 a0_2, .int .i64 a0_3, .int .i64 a0_4, .int .i64 a0_5, .int .i64 a0_6] 24 ?_; intro a5 hg w11 hbox hb; have a0 := yaa (hbox); have a6 := yaa ((by rw [hg]; exact (below_size (upH HB.out)) : w.heap.size ≤ a5)); replace HB := yaa (below_step (upH HB.out) hb); have a9 := a6; clear hb hbox hg) | ((with_reducible refine gd_ 2 rfl ?_); refine bx_ 2 rfl #[.int .i64 0, .int .i64 0, .int .i64 0, .int .i64 0, .slice none 0 0, .slice none 0 0, .slice none 0 0, .slice none 0 0] 63 ?_; intro a4 hg w12 hbox hb; have a1 := yaa (hbox); have a7 := yaa ((by rw [hg]; exact (below_size (by repeat (with_reducible first | exact HB.out | apply below_alloc | apply pw_below_drewN | apply below_drew1 | refine below_set ?_ (Aside0.out ‹_›)))) : w.heap.size ≤ a4)); replace HB := yaa (below_step (by repeat (with_reducible first | exact HB.out | apply below_alloc | apply pw_below_drewN | apply below_drew1 | refine below_set ?_ (Aside0.out ‹_›))) hb); have b0 := a7; have a2 := yaa ((by rw [hg]; exact Nat.ne_of_lt (blk_lt (upB a0.out)) : a5 ≠ a4)); replace a0 := yaa (blk_below (upB a0.out) hb); have a3 := yaa a2.out.symm; clear hb hbox hg; have j0 := a2.out; have j1 := a3.out; obtain ⟨d0, d1, d2, d3, d4, d5, d6⟩ := cc7_ a0.out; obtain ⟨d7, d8, d9, e0, e1, e2⟩ := cf6_ a0.out; have e3 := blk_frozen a0.out 6) | ((with_reducible refine gc_ 14 rfl ?_); refine gl_ (some 4) rfl Try.func14 #[.agg #[.slice A0_0 l0_0.length c0_0, .int .i64 a0_1, .int .i64 a0_2, .int .i64 a0_3, .int .i64 a0_4, .int .i64 a0_5, .int .i64 a0_6]] ?_; (with_reducible refine (impl_CfgOk.calls _ _ l0_0 a0_1 a0_2 a0_3 a0_4 a0_5 a0_6 false _ ?side1 ?side2 A2.out).mono ?_); (case side1 => repeat (first | exact (Kd.C_below HR0_0.out HB.out) | (with_reducible refine Kd.C_alloc ?_ _) | (with_reducible refine Kd.C_drewN ?_ _) | (with_reducible refine Kd.C_drew ?_))); (case side2 => exact HC0_0.out); rintro e w15 ⟨rfl, hb⟩; refine ⟨_, rfl, ?_⟩; replace a0 := yaa (blk_below (upB a0.out) hb); replace a1 := yaa (blk_below (upB a1.out) hb); replace HB := yaa (below_step (by repeat (with_reducible first | exact HB.out | apply below_alloc | apply pw_below_drewN | apply below_drew1 | refine below_set ?_ (Aside0.out ‹_›))) hb); (try clear hb); obtain ⟨e4, e5, e6, e7, e8, e9, f0, f1⟩ := cc8_ a1.out; obtain ⟨f2, f3, f4, f5, f6, f7, f8⟩ := cf7_ a1.out; have f9 := blk_frozen a1.out 7))
 refine bodyPost_ret (results_cell_row rfl _ _ a4 63 #[.int .i64 0, .int .i64 0, .int .i64 0, .int .i64 0, .slice none 0 0, .slice none 0 0, .slice none 0 0, .slice none 0 0] (0, 0) _ rfl (by (repeat refine oneB ?_); refine blk_put (cs := #[.int .i64 0, .int .i64 0, .int .i64 0, .int .i64 0, .slice none 0 0, .slice none 0 0, .slice none 0 0, .slice none 0 0]) ?_ 7 _ rfl; refine blk_put (cs := #[.int .i64 0, .int .i64 0, .int .i64 0, .int .i64 0, .slice none 0 0, .slice none 0 0, .slice none 0 0, .slice none 0 0]) ?_ 6 _ rfl; refine blk_put (cs := #[.int .i64 0, .int .i64 0, .int .i64 0, .int .i64 0, .slice none 0 0, .slice none 0 0, .slice none 0 0, .slice none 0 0]) ?_ 5 _ rfl; refine blk_put (cs := #[.int .i64 0, .int .i64 0, .int .i64 0, .int .i64 0, .slice none 0 0, .slice none 0 0, .slice none 0 0, .slice none 0 0]) ?_ 4 _ rfl; refine blk_put (cs := #[.int .i64 0, .int .i64 0, .int .i64 0, .int .i64 0, .slice none 0 0, .slice none 0 0, .slice none 0 0, .slice none 0 0]) ?_ 3 _ rfl; refine blk_put (cs := #[.int .i64 0, .int .i64 0, .int .i64 0, .int .i64 0, .slice none 0 0, .slice none 0 0, .slice none 0 0, .slice none 0 0]) ?_ 2 _ rfl; refine blk_put (cs := #[.int .i64 0, .int .i64 0, .int .i64 0, .int .i64 0, .slice none 0 0, .slice none 0 0, .slice none 0 0, .slice none 0 0]) ?_ 1 _ rfl; refine blk_put (cs := #[.int .i64 0, .int .i64 0, .int .i64 0, .int .i64 0, .slice none 0 0, .slice none 0 0, .slice none 0 0, .slice none 0 0]) ?_ 0 _ rfl; exact upB a1.out) Try.underlying63 rfl (by kernel_rfl)) rfl ?_
 exact ⟨_, _, _, _, by first | rfl | (simp [*, errW_none, errW_some] <;> rfl), by first | exact Kd.S_nil _ _ _ _ _ | exact Kd.N_nil _ _ _ _ _ | exact Kd.V_nil _ _ _ _ _ | exact Kd.Q_nil _ _ _ _ _ | exact Kd.R_nil _ _ _ _ _, by first | exact Kd.S_nil _ _ _ _ _ | exact Kd.N_nil _ _ _ _ _ | exact Kd.V_nil _ _ _ _ _ | exact Kd.Q_nil _ _ _ _ _ | exact Kd.R_nil _ _ _ _ _, by first | exact Kd.R_nil _ _ _ _ _ | exact Kd.N_nil _ _ _ _ _ | exact Kd.V_nil _ _ _ _ _ | exact Kd.Q_nil _ _ _ _ _ | exact Kd.S_nil _ _ _ _ _, by first | exact Kd.S_nil _ _ _ _ _ | exact Kd.N_nil _ _ _ _ _ | exact Kd.V_nil _ _ _ _ _ | exact Kd.Q_nil _ _ _ _ _ | exact Kd.R_nil _ _ _ _ _, by repeat (with_reducible first | exact HB.out | apply below_alloc | apply pw_below_drewN | apply below_drew1 | refine below_set ?_ (Aside0.out ‹_›))⟩
end
section
def spec_l1In.f (a0 : Int) (a1 : Int) (a2 : Int) : Option (Bool) := if a0 ≥ a1 then (some (decide (a0 ≤ a2))) else (some false)
set_option maxHeartbeats 8000000 in
set_option maxRecDepth 100000 in
theorem spec_l1In.calls (a0 : Int) (a1 : Int) (a2 : Int) (r : Bool) (w : World) (h : spec_l1In.f a0 a1 a2 = some r) :
    Calls Try.prog 63 #[.int .i64 a0, .int .i64 a1, .int .i64 a2] w fun e w' => e = .returned (.bool r) ∧ Drawn0 w w' := by
  have H : (if a0 ≥ a1 then (some (decide (a0 ≤ a2))) else (some false)) = some r := h; clear h
  by_cases c4 : a0 ≥ a1
  · rw [if_pos c4] at H
    have c4b0 : decide (a1 ≤ a0) = true := decide_eq_true c4; clear c4; obtain rfl := Option.some.inj H
    go_enter Try.func63, Try.ntmps63
    go_wp2
    go_ret
    exact ⟨by first | rfl | (simp; done) | (simp [*]; done), by repeat (first | exact Drawn0.refl _ | apply Drawn0.step)⟩
  · rw [if_neg c4] at H
    have c4b0 : decide (a1 ≤ a0) = false := decide_eq_false c4; clear c4; obtain rfl := Option.some.inj H
    go_enter Try.func63, Try.ntmps63
    go_wp2
    go_ret
    exact ⟨by first | rfl | (simp; done) | (simp [*]; done), by repeat (first | exact Drawn0.refl _ | apply Drawn0.step)⟩
end
section
open Go.Proofs.YtgpkkkmapgnhkaaW.PrintWords.Aside0 renaming mk → yaa
def spec_CfgOk.f (l0_0 : List Int) (a0_1 : Int) (a0_2 : Int) (a0_3 : Int) (a0_4 : Int) (a0_5 : Int) (a0_6 : Int) : Option (Bool) := if (l0_0.length : Int) ≤ 32 then ((spec_l1In.f a0_1 1 9).bind fun t102 => (if t102 = true then ((spec_l1In.f a0_2 1 99).bind fun t103 => (if t103 = true then ((spec_l1In.f a0_3 1 4).bind fun t104 => (if t104 = true then ((spec_l1In.f a0_4 1 999).bind fun t105 => (if t105 = true then ((spec_l1In.f a0_5 1 3).bind fun t106 => (if t106 = true then ((spec_l1In.f a0_6 1 999).bind fun t107 => (some t107)) else (some false))) else (some false))) else (some false))) else (some false))) else (some false))) else (some false)
set_option maxHeartbeats 8000000 in
set_option maxRecDepth 100000 in
theorem spec_CfgOk.calls (A0_0 : Option Addr) (c0_0 : Nat) (l0_0 : List Int) (a0_1 : Int) (a0_2 : Int) (a0_3 : Int) (a0_4 : Int) (a0_5 : Int) (a0_6 : Int) (r : Bool) (w : World) (hr0_0 : Kd.C (Kd.int .u8) w A0_0 l0_0.length l0_0) (hc0_0 : l0_0.length ≤ c0_0) (h : spec_CfgOk.f l0_0 a0_1 a0_2 a0_3 a0_4 a0_5 a0_6 = some r) :
  Calls Try.prog 15 #[.agg #[.slice A0_0 l0_0.length c0_0, .int .i64 a0_1, .int .i64 a0_2, .int .i64 a0_3, .int .i64 a0_4, .int .i64 a0_5, .int .i64 a0_6]] w fun e w' => e = .returned (.bool r) ∧ Below w.heap.size w w' := by
 have hu24 := Try.underlying24; have HR0_0 := yaa hr0_0; have HC0_0 := yaa hc0_0; clear hr0_0 hc0_0; have HB := yaa (Below.refl w.heap.size w); have H : (if (l0_0.length : Int) ≤ 32 then ((spec_l1In.f a0_1 1 9).bind fun a6 => (if a6 = true then ((spec_l1In.f a0_2 1 99).bind fun a7 => (if a7 = true then ((spec_l1In.f a0_3 1 4).bind fun a8 => (if a8 = true then ((spec_l1In.f a0_4 1 999).bind fun a9 => (if a9 = true then ((spec_l1In.f a0_5 1 3).bind fun b0 => (if b0 = true then ((spec_l1In.f a0_6 1 999).bind fun b1 => (some b1)) else (some false))) else (some false))) else (some false))) else (some false))) else (some false))) else (some false)) = some r := h; clear h
 by_cases c2 : (l0_0.length : Int) ≤ 32
 rotate_left
 ·
  rw [if_neg c2] at H
  have l4 : decide ((l0_0.length : Int) ≤ 32) = false := decide_eq_false c2; have l5 : decide (l0_0.length ≤ 32) = false := decide_eq_false (by omega); clear c2; obtain rfl := Option.some.inj H
  go_enter Try.func15, Try.ntmps15
  go_wp2_with (first | ((with_reducible refine gd_ 1 rfl ?_); refine bx_ 1 rfl #[.slice A0_0 l0_0.length c0_0, .int .i64 a0_1, .int .i64 a0_2, .int .i64 a0_3, .int .i64 a0_4, .int .i64 a0_5, .int .i64 a0_6] 24 ?_; intro a1 hg w26 hbox hb; have a0 := yaa (hbox); have a2 := yaa ((by rw [hg]; exact (below_size (upH HB.out)) : w.heap.size ≤ a1)); replace HB := yaa (below_step (upH HB.out) hb); have a3 := a2; clear hb hbox hg; obtain ⟨k0, k1, k2, k3, k4, k5, k6⟩ := cc7_ a0.out; obtain ⟨k7, k8, k9, l0, l1, l2⟩ := cf6_ a0.out; have l3 := blk_frozen a0.out 6))
  go_ret
  exact ⟨by first | rfl | (simp [*, errW_none, errW_some] <;> rfl), by repeat (with_reducible first | exact HB.out | apply below_alloc | apply pw_below_drewN | apply below_drew1 | refine below_set ?_ (Aside0.out ‹_›))⟩
 rw [if_pos c2] at H
 have l4 : decide ((l0_0.length : Int) ≤ 32) = true := decide_eq_true c2; have l5 : decide (l0_0.length ≤ 32) = true := decide_eq_true (by omega); clear c2; obtain ⟨a6, A3, H⟩ := bindA H; (try dsimp only at H)
 by_cases c4 : a6 = true
 rotate_left
 ·
  replace c4 := Bool.eq_false_iff.mpr c4
  subst c4
  rw [if_neg (show ¬ (false = true) by decide)] at H
  obtain rfl := Option.some.inj H
  go_enter Try.func15, Try.ntmps15
  go_wp2_with (first | ((with_reducible refine gd_ 1 rfl ?_); refine bx_ 1 rfl #[.slice A0_0 l0_0.length c0_0, .int .i64 a0_1, .int .i64 a0_2, .int .i64 a0_3, .int .i64 a0_4, .int .i64 a0_5, .int .i64 a0_6] 24 ?_; intro a1 hg w24 hbox hb; have a0 := yaa (hbox); have a2 := yaa ((by rw [hg]; exact (below_size (upH HB.out)) : w.heap.size ≤ a1)); replace HB := yaa (below_step (upH HB.out) hb); have a3 := a2; clear hb hbox hg; obtain ⟨i6, i7, i8, i9, j0, j1, j2⟩ := cc7_ a0.out; obtain ⟨j3, j4, j5, j6, j7, j8⟩ := cf6_ a0.out; have j9 := blk_frozen a0.out 6) | (go_at_call 63; (with_reducible refine (spec_l1In.calls a0_1 1 9 false _ A3.out).mono ?_); rintro e w' ⟨rfl, ⟨nd, rfl⟩⟩))
  go_ret
  exact ⟨by first | rfl | (simp [*, errW_none, errW_some] <;> rfl), by repeat (with_reducible first | exact HB.out | apply below_alloc | apply pw_below_drewN | apply below_drew1 | refine below_set ?_ (Aside0.out ‹_›))⟩
 subst c4
 rw [if_pos rfl] at H
 obtain ⟨a7, A5, H⟩ := bindA H; (try dsimp only at H)
 by_cases c6 : a7 = true
 rotate_left
 ·
  replace c6 := Bool.eq_false_iff.mpr c6
  subst c6
  rw [if_neg (show ¬ (false = true) by decide)] at H
  obtain rfl := Option.some.inj H
  go_enter Try.func15, Try.ntmps15
  go_wp2_with (first | ((with_reducible refine gd_ 1 rfl ?_); refine bx_ 1 rfl #[.slice A0_0 l0_0.length c0_0, .int .i64 a0_1, .int .i64 a0_2, .int .i64 a0_3, .int .i64 a0_4, .int .i64 a0_5, .int .i64 a0_6] 24 ?_; intro a1 hg w22 hbox hb; have a0 := yaa (hbox); have a2 := yaa ((by rw [hg]; exact (below_size (upH HB.out)) : w.heap.size ≤ a1)); replace HB := yaa (below_step (upH HB.out) hb); have a3 := a2; clear hb hbox hg; obtain ⟨h2, h3, h4, h5, h6, h7, h8⟩ := cc7_ a0.out; obtain ⟨h9, i0, i1, i2, i3, i4⟩ := cf6_ a0.out; have i5 := blk_frozen a0.out 6) | (go_at_call 63; (with_reducible refine (spec_l1In.calls a0_1 1 9 true _ A3.out).mono ?_); rintro e w' ⟨rfl, ⟨nd, rfl⟩⟩) | (go_at_call 63; (with_reducible refine (spec_l1In.calls a0_2 1 99 false _ A5.out).mono ?_); rintro e w' ⟨rfl, ⟨nd, rfl⟩⟩))
  go_ret
  exact ⟨by first | rfl | (simp [*, errW_none, errW_some] <;> rfl), by repeat (with_reducible first | exact HB.out | apply below_alloc | apply pw_below_drewN | apply below_drew1 | refine below_set ?_ (Aside0.out ‹_›))⟩
 subst c6
 rw [if_pos rfl] at H
 obtain ⟨a8, A7, H⟩ := bindA H; (try dsimp only at H)
 by_cases c8 : a8 = true
 rotate_left
 ·
  replace c8 := Bool.eq_false_iff.mpr c8
  subst c8
  rw [if_neg (show ¬ (false = true) by decide)] at H
  obtain rfl := Option.some.inj H
  go_enter Try.func15, Try.ntmps15
  go_wp2_with (first | ((with_reducible refine gd_ 1 rfl ?_); refine bx_ 1 rfl #[.slice A0_0 l0_0.length c0_0, .int .i64 a0_1, .int .i64 a0_2, .int .i64 a0_3, .int .i64 a0_4, .int .i64 a0_5, .int .i64 a0_6] 24 ?_; intro a1 hg w20 hbox hb; have a0 := yaa (hbox); have a2 := yaa ((by rw [hg]; exact (below_size (upH HB.out)) : w.heap.size ≤ a1)); replace HB := yaa (below_step (upH HB.out) hb); have a3 := a2; clear hb hbox hg; obtain ⟨f8, f9, g0, g1, g2, g3, g4⟩ := cc7_ a0.out; obtain ⟨g5, g6, g7, g8, g9, h0⟩ := cf6_ a0.out; have h1 := blk_frozen a0.out 6) | (go_at_call 63; (with_reducible refine (spec_l1In.calls a0_1 1 9 true _ A3.out).mono ?_); rintro e w' ⟨rfl, ⟨nd, rfl⟩⟩) | (go_at_call 63; (with_reducible refine (spec_l1In.calls a0_2 1 99 true _ A5.out).mono ?_); rintro e w' ⟨rfl, ⟨nd, rfl⟩⟩) | (go_at_call 63; (with_reducible refine (spec_l1In.calls a0_3 1 4 false _ A7.out).mono ?_); rintro e w' ⟨rfl, ⟨nd, rfl⟩⟩))
  go_ret
  exact ⟨by first | rfl | (simp [*, errW_none, errW_some] <;> rfl), by repeat (with_reducible first | exact HB.out | apply below_alloc | apply pw_below_drewN | apply below_drew1 | refine below_set ?_ (Aside0.out ‹_›))⟩
 subst c8
 rw [if_pos rfl] at H
 obtain ⟨a9, A9, H⟩ := bindA H; (try dsimp only at H)
 by_cases c10 : a9 = true
 ·
  subst c10
  rw [if_pos rfl] at H
  obtain ⟨b0, A11, H⟩ := bindA H; (try dsimp only at H)
  by_cases c12 : b0 = true
  ·
   subst c12
   rw [if_pos rfl] at H
   obtain ⟨b1, A13, H⟩ := bindA H; (try dsimp only at H); obtain rfl := Option.some.inj H
   go_enter Try.func15, Try.ntmps15
   go_wp2_with (first | ((with_reducible refine gd_ 1 rfl ?_); refine bx_ 1 rfl #[.slice A0_0 l0_0.length c0_0, .int .i64 a0_1, .int .i64 a0_2, .int .i64 a0_3, .int .i64 a0_4, .int .i64 a0_5, .int .i64 a0_6] 24 ?_; intro a1 hg w14 hbox hb; have a0 := yaa (hbox); have a2 := yaa ((by rw [hg]; exact (below_size (upH HB.out)) : w.heap.size ≤ a1)); replace HB := yaa (below_step (upH HB.out) hb); have a3 := a2; clear hb hbox hg; obtain ⟨b2, b3, b4, b5, b6, b7, b8⟩ := cc7_ a0.out; obtain ⟨b9, c0, c1, c3, c5, c7⟩ := cf6_ a0.out; have c9 := blk_frozen a0.out 6) | (go_at_call 63; (with_reducible refine (spec_l1In.calls a0_1 1 9 true _ A3.out).mono ?_); rintro e w' ⟨rfl, ⟨nd, rfl⟩⟩) | (go_at_call 63; (with_reducible refine (spec_l1In.calls a0_2 1 99 true _ A5.out).mono ?_); rintro e w' ⟨rfl, ⟨nd, rfl⟩⟩) | (go_at_call 63; (with_reducible refine (spec_l1In.calls a0_3 1 4 true _ A7.out).mono ?_); rintro e w' ⟨rfl, ⟨nd, rfl⟩⟩) | (go_at_call 63; (with_reducible refine (spec_l1In.calls a0_4 1 999 true _ A9.out).mono ?_); rintro e w' ⟨rfl, ⟨nd, rfl⟩⟩) | (go_at_call 63; (with_reducible refine (spec_l1In.calls a0_5 1 3 true _ A11.out).mono ?_); rintro e w' ⟨rfl, ⟨nd, rfl⟩⟩) | (go_at_call 63; (with_reducible refine (spec_l1In.calls a0_6 1 999 b1 _ A13.out).mono ?_); rintro e w' ⟨rfl, ⟨nd, rfl⟩⟩))
   go_ret
   exact ⟨by first | rfl | (simp [*, errW_none, errW_some] <;> rfl), by repeat (with_reducible first | exact HB.out | apply below_alloc | apply pw_below_drewN | apply below_drew1 | refine below_set ?_ (Aside0.out ‹_›))⟩
  replace c12 := Bool.eq_false_iff.mpr c12
  subst c12
  rw [if_neg (show ¬ (false = true) by decide)] at H
  obtain rfl := Option.some.inj H
  go_enter Try.func15, Try.ntmps15
  go_wp2_with (first | ((with_reducible refine gd_ 1 rfl ?_); refine bx_ 1 rfl #[.slice A0_0 l0_0.length c0_0, .int .i64 a0_1, .int .i64 a0_2, .int .i64 a0_3, .int .i64 a0_4, .int .i64 a0_5, .int .i64 a0_6] 24 ?_; intro a1 hg w16 hbox hb; have a0 := yaa (hbox); have a2 := yaa ((by rw [hg]; exact (below_size (upH HB.out)) : w.heap.size ≤ a1)); replace HB := yaa (below_step (upH HB.out) hb); have a3 := a2; clear hb hbox hg; obtain ⟨d0, d1, d2, d3, d4, d5, d6⟩ := cc7_ a0.out; obtain ⟨d7, d8, d9, e0, e1, e2⟩ := cf6_ a0.out; have e3 := blk_frozen a0.out 6) | (go_at_call 63; (with_reducible refine (spec_l1In.calls a0_1 1 9 true _ A3.out).mono ?_); rintro e w' ⟨rfl, ⟨nd, rfl⟩⟩) | (go_at_call 63; (with_reducible refine (spec_l1In.calls a0_2 1 99 true _ A5.out).mono ?_); rintro e w' ⟨rfl, ⟨nd, rfl⟩⟩) | (go_at_call 63; (with_reducible refine (spec_l1In.calls a0_3 1 4 true _ A7.out).mono ?_); rintro e w' ⟨rfl, ⟨nd, rfl⟩⟩) | (go_at_call 63; (with_reducible refine (spec_l1In.calls a0_4 1 999 true _ A9.out).mono ?_); rintro e w' ⟨rfl, ⟨nd, rfl⟩⟩) | (go_at_call 63; (with_reducible refine (spec_l1In.calls a0_5 1 3 false _ A11.out).mono ?_); rintro e w' ⟨rfl, ⟨nd, rfl⟩⟩))
  go_ret
  exact ⟨by first | rfl | (simp [*, errW_none, errW_some] <;> rfl), by repeat (with_reducible first | exact HB.out | apply below_alloc | apply pw_below_drewN | apply below_drew1 | refine below_set ?_ (Aside0.out ‹_›))⟩
 replace c10 := Bool.eq_false_iff.mpr c10
 subst c10
 rw [if_neg (show ¬ (false = true) by decide)] at H
 obtain rfl := Option.some.inj H
 go_enter Try.func15, Try.ntmps15
 go_wp2_with (first | ((with_reducible refine gd_ 1 rfl ?_); refine bx_ 1 rfl #[.slice A0_0 l0_0.length c0_0, .int .i64 a0_1, .int .i64 a0_2, .int .i64 a0_3, .int .i64 a0_4, .int .i64 a0_5, .int .i64 a0_6] 24 ?_; intro a1 hg w18 hbox hb; have a0 := yaa (hbox); have a2 := yaa ((by rw [hg]; exact (below_size (upH HB.out)) : w.heap.size ≤ a1)); replace HB := yaa (below_step (upH HB.out) hb); have a3 := a2; clear hb hbox hg; obtain ⟨e4, e5, e6, e7, e8, e9, f0⟩ := cc7_ a0.out; obtain ⟨f1, f2, f3, f4, f5, f6⟩ := cf6_ a0.out; have f7 := blk_frozen a0.out 6) | (go_at_call 63; (with_reducible refine (spec_l1In.calls a0_1 1 9 true _ A3.out).mono ?_); rintro e w' ⟨rfl, ⟨nd, rfl⟩⟩) | (go_at_call 63; (with_reducible refine (spec_l1In.calls a0_2 1 99 true _ A5.out).mono ?_); rintro e w' ⟨rfl, ⟨nd, rfl⟩⟩) | (go_at_call 63; (with_reducible refine (spec_l1In.calls a0_3 1 4 true _ A7.out).mono ?_); rintro e w' ⟨rfl, ⟨nd, rfl⟩⟩) | (go_at_call 63; (with_reducible refine (spec_l1In.calls a0_4 1 999 false _ A9.out).mono ?_); rintro e w' ⟨rfl, ⟨nd, rfl⟩⟩))
 go_ret
 exact ⟨by first | rfl | (simp [*, errW_none, errW_some] <;> rfl), by repeat (with_reducible first | exact HB.out | apply below_alloc | apply pw_below_drewN | apply below_drew1 | refine below_set ?_ (Aside0.out ‹_›))⟩
end
section
open Go.Proofs.YtgpkkkmapgnhkaaW.PrintWords.Aside0 renaming mk → yaa
def spec_TenNew.f (l0_0 : List Int) (a0_1 : Int) (a0_2 : Int) (a0_3 : Int) (a0_4 : Int) (a0_5 : Int) (a0_6 : Int) : Option (Int × Int × Int × Int × (List (S124)) × (List (S156)) × List ByteArray × (List (S158))) := (spec_CfgOk.f l0_0 a0_1 a0_2 a0_3 a0_4 a0_5 a0_6).bind fun t103 => (if t103 = true then (some (0, a0_1, 0, 0, ([] : List (S124)), ([] : List (S156)), ([] : List ByteArray), ([] : List (S158)))) else (some (0, 0, 0, 0, ([] : List (S124)), ([] : List (S156)), ([] : List ByteArray), ([] : List (S158)))))
set_option maxHeartbeats 8000000 in
set_option maxRecDepth 100000 in
theorem spec_TenNew.calls (A0_0 : Option Addr) (c0_0 : Nat) (l0_0 : List Int) (a0_1 : Int) (a0_2 : Int) (a0_3 : Int) (a0_4 : Int) (a0_5 : Int) (a0_6 : Int) (r1 : Int) (r2 : Int) (r3 : Int) (r4 : Int) (r5 : List (S124)) (r6 : List (S156)) (r7 : List ByteArray) (r8 : List (S158)) (w : World) (hr0_0 : Kd.C (Kd.int .u8) w A0_0 l0_0.length l0_0) (hc0_0 : l0_0.length ≤ c0_0) (h : spec_TenNew.f l0_0 a0_1 a0_2 a0_3 a0_4 a0_5 a0_6 = some (r1, r2, r3, r4, r5, r6, r7, r8)) :
  Calls Try.prog 38 #[.agg #[.slice A0_0 l0_0.length c0_0, .int .i64 a0_1, .int .i64 a0_2, .int .i64 a0_3, .int .i64 a0_4, .int .i64 a0_5, .int .i64 a0_6]] w fun e w' => ∃ v4_ v5_ v6_ v7_ : Value, e = .returned (.agg #[.int .i64 r1, .int .i64 r2, .int .i64 r3, .int .i64 r4, v4_, v5_, v6_, v7_]) ∧ Kd.S k124 124 w' w.heap.size (fun _ => True) v4_ r5 ∧ Kd.S k156 156 w' w.heap.size (fun _ => True) v5_ r6 ∧ Kd.R Kd.string 9 w' w.heap.size (fun _ => True) v6_ r7 ∧ Kd.S k158 158 w' w.heap.size (fun _ => True) v7_ r8 ∧ Below w.heap.size w w' := by
 have hu24 := Try.underlying24; have hu63 := Try.underlying63; have HR0_0 := yaa hr0_0; have HC0_0 := yaa hc0_0; clear hr0_0 hc0_0; have HB := yaa (Below.refl w.heap.size w); have H : ((spec_CfgOk.f l0_0 a0_1 a0_2 a0_3 a0_4 a0_5 a0_6).bind fun a8 => (if a8 = true then (some (0, a0_1, 0, 0, ([] : List (S124)), ([] : List (S156)), ([] : List ByteArray), ([] : List (S158)))) else (some (0, 0, 0, 0, ([] : List (S124)), ([] : List (S156)), ([] : List ByteArray), ([] : List (S158)))))) = some (r1, r2, r3, r4, r5, r6, r7, r8) := h; clear h; obtain ⟨a8, A2, H⟩ := bindA H; (try dsimp only at H)
 by_cases c3 : a8 = true
 ·
  subst c3
  rw [if_pos rfl] at H
  simp only [Option.some.injEq, Prod.mk.injEq] at H
  obtain ⟨rfl, rfl, rfl, rfl, rfl, rfl, rfl, rfl⟩ := H
  go_enter Try.func38, Try.ntmps38
  go_wp2_with (first | ((with_reducible refine gd_ 1 rfl ?_); refine bx_ 1 rfl #[.slice A0_0 l0_0.length c0_0, .int .i64 a0_1, .int .i64 a0_2, .int .i64 a0_3, .int .i64 a0_4, .int .i64 a0_5, .int .i64 a0_6] 24 ?_; intro a5 hg w4 hbox hb; have a0 := yaa (hbox); have a6 := yaa ((by rw [hg]; exact (below_size (upH HB.out)) : w.heap.size ≤ a5)); replace HB := yaa (below_step (upH HB.out) hb); have a9 := a6; clear hb hbox hg) | ((with_reducible refine gd_ 2 rfl ?_); refine bx_ 2 rfl #[.int .i64 0, .int .i64 0, .int .i64 0, .int .i64 0, .slice none 0 0, .slice none 0 0, .slice none 0 0, .slice none 0 0] 63 ?_; intro a4 hg w5 hbox hb; have a1 := yaa (hbox); have a7 := yaa ((by rw [hg]; exact (below_size (by repeat (with_reducible first | exact HB.out | apply below_alloc | apply pw_below_drewN | apply below_drew1 | refine below_set ?_ (Aside0.out ‹_›)))) : w.heap.size ≤ a4)); replace HB := yaa (below_step (by repeat (with_reducible first | exact HB.out | apply below_alloc | apply pw_below_drewN | apply below_drew1 | refine below_set ?_ (Aside0.out ‹_›))) hb); have b0 := a7; have a2 := yaa ((by rw [hg]; exact Nat.ne_of_lt (blk_lt (upB a0.out)) : a5 ≠ a4)); replace a0 := yaa (blk_below (upB a0.out) hb); have a3 := yaa a2.out.symm; clear hb hbox hg; have j2 := a2.out; have j3 := a3.out; obtain ⟨g0, g1, g2, g3, g4, g5, g6⟩ := cc7_ a0.out; obtain ⟨g7, g8, g9, h0, h1, h2⟩ := cf6_ a0.out; have h4 := blk_frozen a0.out 6) | ((with_reducible refine gc_ 15 rfl ?_); refine gl_ (some 4) rfl Try.func15 #[.agg #[.slice A0_0 l0_0.length c0_0, .int .i64 a0_1, .int .i64 a0_2, .int .i64 a0_3, .int .i64 a0_4, .int .i64 a0_5, .int .i64 a0_6]] ?_; (with_reducible refine (spec_CfgOk.calls _ _ l0_0 a0_1 a0_2 a0_3 a0_4 a0_5 a0_6 true _ ?side1 ?side2 A2.out).mono ?_); (case side1 => repeat (first | exact (Kd.C_below HR0_0.out HB.out) | (with_reducible refine Kd.C_alloc ?_ _) | (with_reducible refine Kd.C_drewN ?_ _) | (with_reducible refine Kd.C_drew ?_))); (case side2 => exact HC0_0.out); rintro e w8 ⟨rfl, hb⟩; refine ⟨_, rfl, ?_⟩; replace a0 := yaa (blk_below (upB a0.out) hb); replace a1 := yaa (blk_below (upB a1.out) hb); replace HB := yaa (below_step (by repeat (with_reducible first | exact HB.out | apply below_alloc | apply pw_below_drewN | apply below_drew1 | refine below_set ?_ (Aside0.out ‹_›))) hb); (try clear hb); obtain ⟨h5, h6, h7, h8, h9, i0, i1⟩ := cc7_ a0.out; obtain ⟨i2, i3, i4, i5, i6, i7, i8⟩ := cf7_ a0.out; obtain ⟨b3, b4, b5, b6, b7, b8, b9, c0⟩ := cc8_ a1.out; obtain ⟨c1, c2, c4, c5, c6, c7, c8⟩ := cf7_ a1.out; have c9 := blk_frozen a1.out 7))
  refine bodyPost_ret (results_cell_row rfl _ _ a4 63 #[.int .i64 0, .int .i64 a0_1, .int .i64 0, .int .i64 0, .slice none 0 0, .slice none 0 0, .slice none 0 0, .slice none 0 0] (0, 0) _ rfl (by (repeat refine oneB ?_); refine blk_put (cs := #[.int .i64 0, .int .i64 a0_1, .int .i64 0, .int .i64 0, .slice none 0 0, .slice none 0 0, .slice none 0 0, .slice none 0 0]) ?_ 7 _ rfl; refine blk_put (cs := #[.int .i64 0, .int .i64 a0_1, .int .i64 0, .int .i64 0, .slice none 0 0, .slice none 0 0, .slice none 0 0, .slice none 0 0]) ?_ 6 _ rfl; refine blk_put (cs := #[.int .i64 0, .int .i64 a0_1, .int .i64 0, .int .i64 0, .slice none 0 0, .slice none 0 0, .slice none 0 0, .slice none 0 0]) ?_ 5 _ rfl; refine blk_put (cs := #[.int .i64 0, .int .i64 a0_1, .int .i64 0, .int .i64 0, .slice none 0 0, .slice none 0 0, .slice none 0 0, .slice none 0 0]) ?_ 4 _ rfl; refine blk_put (cs := #[.int .i64 0, .int .i64 a0_1, .int .i64 0, .int .i64 0, .slice none 0 0, .slice none 0 0, .slice none 0 0, .slice none 0 0]) ?_ 3 _ rfl; refine blk_put (cs := #[.int .i64 0, .int .i64 a0_1, .int .i64 0, .int .i64 0, .slice none 0 0, .slice none 0 0, .slice none 0 0, .slice none 0 0]) ?_ 2 _ rfl; refine blk_put (cs := #[.int .i64 0, .int .i64 0, .int .i64 0, .int .i64 0, .slice none 0 0, .slice none 0 0, .slice none 0 0, .slice none 0 0]) ?_ 1 _ rfl; refine blk_put (cs := #[.int .i64 0, .int .i64 0, .int .i64 0, .int .i64 0, .slice none 0 0, .slice none 0 0, .slice none 0 0, .slice none 0 0]) ?_ 0 _ rfl; exact upB a1.out) Try.underlying63 rfl (by kernel_rfl)) rfl ?_
  exact ⟨_, _, _, _, by first | rfl | (simp [*, errW_none, errW_some] <;> rfl), by first | exact Kd.S_nil _ _ _ _ _ | exact Kd.N_nil _ _ _ _ _ | exact Kd.V_nil _ _ _ _ _ | exact Kd.Q_nil _ _ _ _ _ | exact Kd.R_nil _ _ _ _ _, by first | exact Kd.S_nil _ _ _ _ _ | exact Kd.N_nil _ _ _ _ _ | exact Kd.V_nil _ _ _ _ _ | exact Kd.Q_nil _ _ _ _ _ | exact Kd.R_nil _ _ _ _ _, by first | exact Kd.R_nil _ _ _ _ _ | exact Kd.N_nil _ _ _ _ _ | exact Kd.V_nil _ _ _ _ _ | exact Kd.Q_nil _ _ _ _ _ | exact Kd.S_nil _ _ _ _ _, by first | exact Kd.S_nil _ _ _ _ _ | exact Kd.N_nil _ _ _ _ _ | exact Kd.V_nil _ _ _ _ _ | exact Kd.Q_nil _ _ _ _ _ | exact Kd.R_nil _ _ _ _ _, by repeat (with_reducible first | exact HB.out | apply below_alloc | apply pw_below_drewN | apply below_drew1 | refine below_set ?_ (Aside0.out ‹_›))⟩
 replace c3 := Bool.eq_false_iff.mpr c3
 subst c3
 rw [if_neg (show ¬ (false = true) by decide)] at H
 simp only [Option.some.injEq, Prod.mk.injEq] at H
 obtain ⟨rfl, rfl, rfl, rfl, rfl, rfl, rfl, rfl⟩ := H
 go_enter Try.func38, Try.ntmps38
 go_wp2_with (first | ((with_reducible refine gd_ 1 rfl ?_); refine bx_ 1 rfl #[.slice A0_0 l0_0.length c0_0, .int .i64 a0_1, .int .i64 a0_2, .int .i64 a0_3, .int .i64 a0_4, .int .i64 a0_5, .int .i64 a0_6] 24 ?_; intro a5 hg w11 hbox hb; have a0 := yaa (hbox); have a6 := yaa ((by rw [hg]; exact (below_size (upH HB.out)) : w.heap.size ≤ a5)); replace HB := yaa (below_step (upH HB.out) hb); have a9 := a6; clear hb hbox hg) | ((with_reducible refine gd_ 2 rfl ?_); refine bx_ 2 rfl #[.int .i64 0, .int .i64 0, .int .i64 0, .int .i64 0, .slice none 0 0, .slice none 0 0, .slice none 0 0, .slice none 0 0] 63 ?_; intro a4 hg w12 hbox hb; have a1 := yaa (hbox); have a7 := yaa ((by rw [hg]; exact (below_size (by repeat (with_reducible first | exact HB.out | apply below_alloc | apply pw_below_drewN | apply below_drew1 | refine below_set ?_ (Aside0.out ‹_›)))) : w.heap.size ≤ a4)); replace HB := yaa (below_step (by repeat (with_reducible first | exact HB.out | apply below_alloc | apply pw_below_drewN | apply below_drew1 | refine below_set ?_ (Aside0.out ‹_›))) hb); have b0 := a7; have a2 := yaa ((by rw [hg]; exact Nat.ne_of_lt (blk_lt (upB a0.out)) : a5 ≠ a4)); replace a0 := yaa (blk_below (upB a0.out) hb); have a3 := yaa a2.out.symm; clear hb hbox hg; have j0 := a2.out; have j1 := a3.out; obtain ⟨d0, d1, d2, d3, d4, d5, d6⟩ := cc7_ a0.out; obtain ⟨d7, d8, d9, e0, e1, e2⟩ := cf6_ a0.out; have e3 := blk_frozen a0.out 6) | ((with_reducible refine gc_ 15 rfl ?_); refine gl_ (some 4) rfl Try.func15 #[.agg #[.slice A0_0 l0_0.length c0_0, .int .i64 a0_1, .int .i64 a0_2, .int .i64 a0_3, .int .i64 a0_4, .int .i64 a0_5, .int .i64 a0_6]] ?_; (with_reducible refine (spec_CfgOk.calls _ _ l0_0 a0_1 a0_2 a0_3 a0_4 a0_5 a0_6 false _ ?side1 ?side2 A2.out).mono ?_); (case side1 => repeat (first | exact (Kd.C_below HR0_0.out HB.out) | (with_reducible refine Kd.C_alloc ?_ _) | (with_reducible refine Kd.C_drewN ?_ _) | (with_reducible refine Kd.C_drew ?_))); (case side2 => exact HC0_0.out); rintro e w15 ⟨rfl, hb⟩; refine ⟨_, rfl, ?_⟩; replace a0 := yaa (blk_below (upB a0.out) hb); replace a1 := yaa (blk_below (upB a1.out) hb); replace HB := yaa (below_step (by repeat (with_reducible first | exact HB.out | apply below_alloc | apply pw_below_drewN | apply below_drew1 | refine below_set ?_ (Aside0.out ‹_›))) hb); (try clear hb); obtain ⟨e4, e5, e6, e7, e8, e9, f0, f1⟩ := cc8_ a1.out; obtain ⟨f2, f3, f4, f5, f6, f7, f8⟩ := cf7_ a1.out; have f9 := blk_frozen a1.out 7))
 refine bodyPost_ret (results_cell_row rfl _ _ a4 63 #[.int .i64 0, .int .i64 0, .int .i64 0, .int .i64 0, .slice none 0 0, .slice none 0 0, .slice none 0 0, .slice none 0 0] (0, 0) _ rfl (by (repeat refine oneB ?_); refine blk_put (cs := #[.int .i64 0, .int .i64 0, .int .i64 0, .int .i64 0, .slice none 0 0, .slice none 0 0, .slice none 0 0, .slice none 0 0]) ?_ 7 _ rfl; refine blk_put (cs := #[.int .i64 0, .int .i64 0, .int .i64 0, .int .i64 0, .slice none 0 0, .slice none 0 0, .slice none 0 0, .slice none 0 0]) ?_ 6 _ rfl; refine blk_put (cs := #[.int .i64 0, .int .i64 0, .int .i64 0, .int .i64 0, .slice none 0 0, .slice none 0 0, .slice none 0 0, .slice none 0 0]) ?_ 5 _ rfl; refine blk_put (cs := #[.int .i64 0, .int .i64 0, .int .i64 0, .int .i64 0, .slice none 0 0, .slice none 0 0, .slice none 0 0, .slice none 0 0]) ?_ 4 _ rfl; refine blk_put (cs := #[.int .i64 0, .int .i64 0, .int .i64 0, .int .i64 0, .slice none 0 0, .slice none 0 0, .slice none 0 0, .slice none 0 0]) ?_ 3 _ rfl; refine blk_put (cs := #[.int .i64 0, .int .i64 0, .int .i64 0, .int .i64 0, .slice none 0 0, .slice none 0 0, .slice none 0 0, .slice none 0 0]) ?_ 2 _ rfl; refine blk_put (cs := #[.int .i64 0, .int .i64 0, .int .i64 0, .int .i64 0, .slice none 0 0, .slice none 0 0, .slice none 0 0, .slice none 0 0]) ?_ 1 _ rfl; refine blk_put (cs := #[.int .i64 0, .int .i64 0, .int .i64 0, .int .i64 0, .slice none 0 0, .slice none 0 0, .slice none 0 0, .slice none 0 0]) ?_ 0 _ rfl; exact upB a1.out) Try.underlying63 rfl (by kernel_rfl)) rfl ?_
 exact ⟨_, _, _, _, by first | rfl | (simp [*, errW_none, errW_some] <;> rfl), by first | exact Kd.S_nil _ _ _ _ _ | exact Kd.N_nil _ _ _ _ _ | exact Kd.V_nil _ _ _ _ _ | exact Kd.Q_nil _ _ _ _ _ | exact Kd.R_nil _ _ _ _ _, by first | exact Kd.S_nil _ _ _ _ _ | exact Kd.N_nil _ _ _ _ _ | exact Kd.V_nil _ _ _ _ _ | exact Kd.Q_nil _ _ _ _ _ | exact Kd.R_nil _ _ _ _ _, by first | exact Kd.R_nil _ _ _ _ _ | exact Kd.N_nil _ _ _ _ _ | exact Kd.V_nil _ _ _ _ _ | exact Kd.Q_nil _ _ _ _ _ | exact Kd.S_nil _ _ _ _ _, by first | exact Kd.S_nil _ _ _ _ _ | exact Kd.N_nil _ _ _ _ _ | exact Kd.V_nil _ _ _ _ _ | exact Kd.Q_nil _ _ _ _ _ | exact Kd.R_nil _ _ _ _ _, by repeat (with_reducible first | exact HB.out | apply below_alloc | apply pw_below_drewN | apply below_drew1 | refine below_set ?_ (Aside0.out ‹_›))⟩
end
section
open Go.Proofs.YtgpkkkmapgnhkaaW.PrintWords.Aside0 renaming mk → yaa
open Go.Proofs.YtgpkkkmapgnhkaaW.PrintWords renaming pw_below_drewN → yab, below_alloc → yac, below_drew1 → yad, below_set → yae
def laws_eqOpOp.f (a0_0 : Int) (a0_1 : Int) (a0_2 : Int) (a0_3 : Int) (a0_4 : Int) (a1_0 : Int) (a1_1 : Int) (a1_2 : Int) (a1_3 : Int) (a1_4 : Int) : Option (Bool) := if a0_0 = a1_0 then (if a0_1 = a1_1 then (if a0_2 = a1_2 then (if a0_3 = a1_3 then (if a0_4 = a1_4 then (some true) else (some false)) else (some false)) else (some false)) else (some false)) else (some false)
set_option maxHeartbeats 8000000 in
set_option maxRecDepth 100000 in
theorem laws_eqOpOp.calls (a0_0 : Int) (a0_1 : Int) (a0_2 : Int) (a0_3 : Int) (a0_4 : Int) (a1_0 : Int) (a1_1 : Int) (a1_2 : Int) (a1_3 : Int) (a1_4 : Int) (r : Bool) (w : World) (h : laws_eqOpOp.f a0_0 a0_1 a0_2 a0_3 a0_4 a1_0 a1_1 a1_2 a1_3 a1_4 = some r) :
  Calls Try.prog 122 #[.agg #[.int .i64 a0_0, .int .i64 a0_1, .int .i64 a0_2, .int .i64 a0_3, .int .i64 a0_4], .agg #[.int .i64 a1_0, .int .i64 a1_1, .int .i64 a1_2, .int .i64 a1_3, .int .i64 a1_4]] w fun e w' => e = .returned (.bool r) ∧ Below w.heap.size w w' := by
 have hu146 := Try.underlying146; have HB := yaa (Below.refl w.heap.size w); have H : (if a0_0 = a1_0 then (if a0_1 = a1_1 then (if a0_2 = a1_2 then (if a0_3 = a1_3 then (if a0_4 = a1_4 then (some true) else (some false)) else (some false)) else (some false)) else (some false)) else (some false)) = some r := h; clear h
 by_cases c3 : a0_0 = a1_0
 rotate_left
 ·
  rw [if_neg c3] at H
  have n8 := beq_eq_false_iff_ne.mpr c3; have n9 := bne_iff_ne.mpr c3; obtain rfl := Option.some.inj H
  go_enter Try.func122, Try.ntmps122
  go_wp2_with (first | ((with_reducible refine gd_ 2 rfl ?_); refine bx_ 2 rfl #[.int .i64 a0_0, .int .i64 a0_1, .int .i64 a0_2, .int .i64 a0_3, .int .i64 a0_4] 146 ?_; intro a4 hg w33 hbox hb; have a1 := yaa (hbox); have a6 := yaa ((by rw [hg]; exact (below_size (upH HB.out)) : w.heap.size ≤ a4)); replace HB := yaa (below_step (upH HB.out) hb); have a9 := a6; clear hb hbox hg) | ((with_reducible refine gd_ 3 rfl ?_); refine bx_ 3 rfl #[.int .i64 a1_0, .int .i64 a1_1, .int .i64 a1_2, .int .i64 a1_3, .int .i64 a1_4] 146 ?_; intro a5 hg w34 hbox hb; have a3 := yaa (hbox); have a7 := yaa ((by rw [hg]; exact (below_size (by repeat (with_reducible first | exact HB.out | apply yac | apply yab | apply yad | refine yae ?_ (Aside0.out ‹_›)))) : w.heap.size ≤ a5)); replace HB := yaa (below_step (by repeat (with_reducible first | exact HB.out | apply yac | apply yab | apply yad | refine yae ?_ (Aside0.out ‹_›))) hb); have b0 := a7; have a0 := yaa ((by rw [hg]; exact Nat.ne_of_lt (blk_lt (upB a1.out)) : a4 ≠ a5)); replace a1 := yaa (blk_below (upB a1.out) hb); have a2 := yaa a0.out.symm; clear hb hbox hg; have p8 := a0.out; have p9 := a2.out; obtain ⟨l8, l9, m0, m1, m2⟩ := cc5_ a1.out; obtain ⟨m3, m4, m5, m6, m7⟩ := cf5_ a1.out; obtain ⟨m8, m9, n0, n1, n2⟩ := cc5_ a3.out; obtain ⟨n3, n4, n5, n6⟩ := cf4_ a3.out; have n7 := blk_frozen a3.out 4))
  go_ret
  exact ⟨by first | rfl | (simp [*, errW_none, errW_some] <;> rfl), by repeat (with_reducible first | exact HB.out | apply yac | apply yab | apply yad | refine yae ?_ (Aside0.out ‹_›))⟩
 rw [if_pos c3] at H
 have n8 := beq_iff_eq.mpr c3; have n9 := bne_eq_false_iff_eq.mpr c3; clear c3
 by_cases c4 : a0_1 = a1_1
 rotate_left
 ·
  rw [if_neg c4] at H
  have o0 := beq_eq_false_iff_ne.mpr c4; have o1 := bne_iff_ne.mpr c4; obtain rfl := Option.some.inj H
  go_enter Try.func122, Try.ntmps122
  go_wp2_with (first | ((with_reducible refine gd_ 2 rfl ?_); refine bx_ 2 rfl #[.int .i64 a0_0, .int .i64 a0_1, .int .i64 a0_2, .int .i64 a0_3, .int .i64 a0_4] 146 ?_; intro a4 hg w28 hbox hb; have a1 := yaa (hbox); have a6 := yaa ((by rw [hg]; exact (below_size (upH HB.out)) : w.heap.size ≤ a4)); replace HB := yaa (below_step (upH HB.out) hb); have a9 := a6; clear hb hbox hg) | ((with_reducible refine gd_ 3 rfl ?_); refine bx_ 3 rfl #[.int .i64 a1_0, .int .i64 a1_1, .int .i64 a1_2, .int .i64 a1_3, .int .i64 a1_4] 146 ?_; intro a5 hg w29 hbox hb; have a3 := yaa (hbox); have a7 := yaa ((by rw [hg]; exact (below_size (by repeat (with_reducible first | exact HB.out | apply yac | apply yab | apply yad | refine yae ?_ (Aside0.out ‹_›)))) : w.heap.size ≤ a5)); replace HB := yaa (below_step (by repeat (with_reducible first | exact HB.out | apply yac | apply yab | apply yad | refine yae ?_ (Aside0.out ‹_›))) hb); have b0 := a7; have a0 := yaa ((by rw [hg]; exact Nat.ne_of_lt (blk_lt (upB a1.out)) : a4 ≠ a5)); replace a1 := yaa (blk_below (upB a1.out) hb); have a2 := yaa a0.out.symm; clear hb hbox hg; have p6 := a0.out; have p7 := a2.out; obtain ⟨j8, j9, k0, k1, k2⟩ := cc5_ a1.out; obtain ⟨k3, k4, k5, k6, k7⟩ := cf5_ a1.out; obtain ⟨k8, k9, l0, l1, l2⟩ := cc5_ a3.out; obtain ⟨l3, l4, l5, l6⟩ := cf4_ a3.out; have l7 := blk_frozen a3.out 4))
  go_ret
  exact ⟨by first | rfl | (simp [*, errW_none, errW_some] <;> rfl), by repeat (with_reducible first | exact HB.out | apply yac | apply yab | apply yad | refine yae ?_ (Aside0.out ‹_›))⟩
 rw [if_pos c4] at H
 have o0 := beq_iff_eq.mpr c4; have o1 := bne_eq_false_iff_eq.mpr c4; clear c4
 by_cases c5 : a0_2 = a1_2
 rotate_left
 ·
  rw [if_neg c5] at H
  have o2 := beq_eq_false_iff_ne.mpr c5; have o3 := bne_iff_ne.mpr c5; obtain rfl := Option.some.inj H
  go_enter Try.func122, Try.ntmps122
  go_wp2_with (first | ((with_reducible refine gd_ 2 rfl ?_); refine bx_ 2 rfl #[.int .i64 a0_0, .int .i64 a0_1, .int .i64 a0_2, .int .i64 a0_3, .int .i64 a0_4] 146 ?_; intro a4 hg w23 hbox hb; have a1 := yaa (hbox); have a6 := yaa ((by rw [hg]; exact (below_size (upH HB.out)) : w.heap.size ≤ a4)); replace HB := yaa (below_step (upH HB.out) hb); have a9 := a6; clear hb hbox hg) | ((with_reducible refine gd_ 3 rfl ?_); refine bx_ 3 rfl #[.int .i64 a1_0, .int .i64 a1_1, .int .i64 a1_2, .int .i64 a1_3, .int .i64 a1_4] 146 ?_; intro a5 hg w24 hbox hb; have a3 := yaa (hbox); have a7 := yaa ((by rw [hg]; exact (below_size (by repeat (with_reducible first | exact HB.out | apply yac | apply yab | apply yad | refine yae ?_ (Aside0.out ‹_›)))) : w.heap.size ≤ a5)); replace HB := yaa (below_step (by repeat (with_reducible first | exact HB.out | apply yac | apply yab | apply yad | refine yae ?_ (Aside0.out ‹_›))) hb); have b0 := a7; have a0 := yaa ((by rw [hg]; exact Nat.ne_of_lt (blk_lt (upB a1.out)) : a4 ≠ a5)); replace a1 := yaa (blk_below (upB a1.out) hb); have a2 := yaa a0.out.symm; clear hb hbox hg; have p4 := a0.out; have p5 := a2.out; obtain ⟨h8, h9, i0, i1, i2⟩ := cc5_ a1.out; obtain ⟨i3, i4, i5, i6, i7⟩ := cf5_ a1.out; obtain ⟨i8, i9, j0, j1, j2⟩ := cc5_ a3.out; obtain ⟨j3, j4, j5, j6⟩ := cf4_ a3.out; have j7 := blk_frozen a3.out 4))
  go_ret
  exact ⟨by first | rfl | (simp [*, errW_none, errW_some] <;> rfl), by repeat (with_reducible first | exact HB.out | apply yac | apply yab | apply yad | refine yae ?_ (Aside0.out ‹_›))⟩
 rw [if_pos c5] at H
 have o2 := beq_iff_eq.mpr c5; have o3 := bne_eq_false_iff_eq.mpr c5; clear c5
 by_cases c6 : a0_3 = a1_3
 ·
  rw [if_pos c6] at H
  have o4 := beq_iff_eq.mpr c6; have o5 := bne_eq_false_iff_eq.mpr c6; clear c6
  by_cases c7 : a0_4 = a1_4
  ·
   rw [if_pos c7] at H
   have o6 := beq_iff_eq.mpr c7; have o7 := bne_eq_false_iff_eq.mpr c7; clear c7; obtain rfl := Option.some.inj H
   go_enter Try.func122, Try.ntmps122
   go_wp2_with (first | ((with_reducible refine gd_ 2 rfl ?_); refine bx_ 2 rfl #[.int .i64 a0_0, .int .i64 a0_1, .int .i64 a0_2, .int .i64 a0_3, .int .i64 a0_4] 146 ?_; intro a4 hg w8 hbox hb; have a1 := yaa (hbox); have a6 := yaa ((by rw [hg]; exact (below_size (upH HB.out)) : w.heap.size ≤ a4)); replace HB := yaa (below_step (upH HB.out) hb); have a9 := a6; clear hb hbox hg) | ((with_reducible refine gd_ 3 rfl ?_); refine bx_ 3 rfl #[.int .i64 a1_0, .int .i64 a1_1, .int .i64 a1_2, .int .i64 a1_3, .int .i64 a1_4] 146 ?_; intro a5 hg w9 hbox hb; have a3 := yaa (hbox); have a7 := yaa ((by rw [hg]; exact (below_size (by repeat (with_reducible first | exact HB.out | apply yac | apply yab | apply yad | refine yae ?_ (Aside0.out ‹_›)))) : w.heap.size ≤ a5)); replace HB := yaa (below_step (by repeat (with_reducible first | exact HB.out | apply yac | apply yab | apply yad | refine yae ?_ (Aside0.out ‹_›))) hb); have b0 := a7; have a0 := yaa ((by rw [hg]; exact Nat.ne_of_lt (blk_lt (upB a1.out)) : a4 ≠ a5)); replace a1 := yaa (blk_below (upB a1.out) hb); have a2 := yaa a0.out.symm; clear hb hbox hg; have o8 := a0.out; have o9 := a2.out; obtain ⟨b3, b4, b5, b6, b7⟩ := cc5_ a1.out; obtain ⟨b8, b9, c0, c1, c2⟩ := cf5_ a1.out; obtain ⟨c8, c9, d0, d1, d2⟩ := cc5_ a3.out; obtain ⟨d3, d4, d5, d6⟩ := cf4_ a3.out; have d7 := blk_frozen a3.out 4))
   go_ret
   exact ⟨by first | rfl | (simp [*, errW_none, errW_some] <;> rfl), by repeat (with_reducible first | exact HB.out | apply yac | apply yab | apply yad | refine yae ?_ (Aside0.out ‹_›))⟩
  rw [if_neg c7] at H
  have o6 := beq_eq_false_iff_ne.mpr c7; have o7 := bne_iff_ne.mpr c7; obtain rfl := Option.some.inj H
  go_enter Try.func122, Try.ntmps122
  go_wp2_with (first | ((with_reducible refine gd_ 2 rfl ?_); refine bx_ 2 rfl #[.int .i64 a0_0, .int .i64 a0_1, .int .i64 a0_2, .int .i64 a0_3, .int .i64 a0_4] 146 ?_; intro a4 hg w13 hbox hb; have a1 := yaa (hbox); have a6 := yaa ((by rw [hg]; exact (below_size (upH HB.out)) : w.heap.size ≤ a4)); replace HB := yaa (below_step (upH HB.out) hb); have a9 := a6; clear hb hbox hg) | ((with_reducible refine gd_ 3 rfl ?_); refine bx_ 3 rfl #[.int .i64 a1_0, .int .i64 a1_1, .int .i64 a1_2, .int .i64 a1_3, .int .i64 a1_4] 146 ?_; intro a5 hg w14 hbox hb; have a3 := yaa (hbox); have a7 := yaa ((by rw [hg]; exact (below_size (by repeat (with_reducible first | exact HB.out | apply yac | apply yab | apply yad | refine yae ?_ (Aside0.out ‹_›)))) : w.heap.size ≤ a5)); replace HB := yaa (below_step (by repeat (with_reducible first | exact HB.out | apply yac | apply yab | apply yad | refine yae ?_ (Aside0.out ‹_›))) hb); have b0 := a7; have a0 := yaa ((by rw [hg]; exact Nat.ne_of_lt (blk_lt (upB a1.out)) : a4 ≠ a5)); replace a1 := yaa (blk_below (upB a1.out) hb); have a2 := yaa a0.out.symm; clear hb hbox hg; have p0 := a0.out; have p1 := a2.out; obtain ⟨d8, d9, e0, e1, e2⟩ := cc5_ a1.out; obtain ⟨e3, e4, e5, e6, e7⟩ := cf5_ a1.out; obtain ⟨e8, e9, f0, f1, f2⟩ := cc5_ a3.out; obtain ⟨f3, f4, f5, f6⟩ := cf4_ a3.out; have f7 := blk_frozen a3.out 4))
  go_ret
  exact ⟨by first | rfl | (simp [*, errW_none, errW_some] <;> rfl), by repeat (with_reducible first | exact HB.out | apply yac | apply yab | apply yad | refine yae ?_ (Aside0.out ‹_›))⟩
 rw [if_neg c6] at H
 have o4 := beq_eq_false_iff_ne.mpr c6; have o5 := bne_iff_ne.mpr c6; obtain rfl := Option.some.inj H
 go_enter Try.func122, Try.ntmps122
 go_wp2_with (first | ((with_reducible refine gd_ 2 rfl ?_); refine bx_ 2 rfl #[.int .i64 a0_0, .int .i64 a0_1, .int .i64 a0_2, .int .i64 a0_3, .int .i64 a0_4] 146 ?_; intro a4 hg w18 hbox hb; have a1 := yaa (hbox); have a6 := yaa ((by rw [hg]; exact (below_size (upH HB.out)) : w.heap.size ≤ a4)); replace HB := yaa (below_step (upH HB.out) hb); have a9 := a6; clear hb hbox hg) | ((with_reducible refine gd_ 3 rfl ?_); refine bx_ 3 rfl #[.int .i64 a1_0, .int .i64 a1_1, .int .i64 a1_2, .int .i64 a1_3, .int .i64 a1_4] 146 ?_; intro a5 hg w19 hbox hb; have a3 := yaa (hbox); have a7 := yaa ((by rw [hg]; exact (below_size (by repeat (with_reducible first | exact HB.out | apply yac | apply yab | apply yad | refine yae ?_ (Aside0.out ‹_›)))) : w.heap.size ≤ a5)); replace HB := yaa (below_step (by repeat (with_reducible first | exact HB.out | apply yac | apply yab | apply yad | refine yae ?_ (Aside0.out ‹_›))) hb); have b0 := a7; have a0 := yaa ((by rw [hg]; exact Nat.ne_of_lt (blk_lt (upB a1.out)) : a4 ≠ a5)); replace a1 := yaa (blk_below (upB a1.out) hb); have a2 := yaa a0.out.symm; clear hb hbox hg; have p2 := a0.out; have p3 := a2.out; obtain ⟨f8, f9, g0, g1, g2⟩ := cc5_ a1.out; obtain ⟨g3, g4, g5, g6, g7⟩ := cf5_ a1.out; obtain ⟨g8, g9, h0, h1, h2⟩ := cc5_ a3.out; obtain ⟨h3, h4, h5, h6⟩ := cf4_ a3.out; have h7 := blk_frozen a3.out 4))
 go_ret
 exact ⟨by first | rfl | (simp [*, errW_none, errW_some] <;> rfl), by repeat (with_reducible first | exact HB.out | apply yac | apply yab | apply yad | refine yae ?_ (Aside0.out ‹_›))⟩
end
section
open Go.Proofs.Ytgpkkkmapgnhkaa.X renaming rd_T146 → yaa
abbrev q74_0 : Array Bool := Array.replicate 10 false
abbrev q74_1 : Array Bool := #[true, false, false, false, false, false, false, false, false, false]
abbrev q74_2 : Array Bool := #[true, true, false, false, false, false, false, false, false, false]
abbrev q74_3 : Array Bool := #[true, true, true, false, false, false, false, false, false, false]
abbrev q74_4 : Array Bool := #[true, true, true, false, true, false, false, false, false, false]
abbrev q74_5 : Array Bool := #[true, true, true, false, true, true, false, false, false, false]
abbrev q74_6 : Array Bool := #[true, true, true, false, true, true, true, false, false, false]
abbrev q74_7 : Array Bool := #[true, true, true, true, true, true, true, false, false, false]
abbrev q74_8 : Array Bool := #[true, true, true, true, true, true, true, true, false, false]
abbrev q74_9 : Array Bool := #[true, true, true, true, true, true, true, true, true, false]
abbrev q74_10 : Array Bool := #[true, true, true, true, true, true, true, true, true, true]
def laws_eqOpOpS.l0 : Nat → List (S146) → List (S146) → Int → Option (Bool)
 | 0, _, _, _ => none
 | k + 1, x0, x1, x5 => if x5 < (x0.length : Int) then (if 0 ≤ x5 then (if x5 < (x1.length : Int) then ((laws_eqOpOp.f ((rd_T146 x0 x5).f0) ((rd_T146 x0 x5).f1) ((rd_T146 x0 x5).f2) ((rd_T146 x0 x5).f3) ((rd_T146 x0 x5).f4) ((rd_T146 x1 x5).f0) ((rd_T146 x1 x5).f1) ((rd_T146 x1 x5).f2) ((rd_T146 x1 x5).f3) ((rd_T146 x1 x5).f4)).bind fun t103 => (if t103 = true then (laws_eqOpOpS.l0 k x0 x1 (wrap64 (x5 + 1))) else (some false))) else (none)) else (none)) else (some true)
def laws_eqOpOpS.f (k : Nat) (l0 : List (S146)) (l1 : List (S146)) : Option (Bool) := if (l0.length : Int) = (l1.length : Int) then (laws_eqOpOpS.l0 k l0 l1 0) else (some false)
def laws_eqOpOpS.T6 : Bool × List (List Nat × List Nat) := (true, [([], []), ([], []), ([0, 1], [0, 1]), ([2], [2]), ([], []), ([], []), ([4, 5], [4, 5]), ([6], [6]), ([3, 7], [3, 7]), ([8], [8])])
def laws_eqOpOpS.B6 : List Nat := [0, 0, 3, 7, 0, 0, 48, 112, 255, 511]
theorem laws_eqOpOpS.tab6 : rtab .any (opsOf Try.f74 6) = laws_eqOpOpS.T6 := by kernel_rfl
theorem laws_eqOpOpS.bits6 : waitsOk laws_eqOpOpS.T6.2 laws_eqOpOpS.B6 = true := by kernel_rfl
set_option maxHeartbeats 8000000 in
set_option maxRecDepth 100000 in
theorem laws_eqOpOpS.calls (k : Nat) (A0 : Option Addr) (c0 : Nat) (l0 : List (S146)) (A1 : Option Addr) (c1 : Nat) (l1 : List (S146)) (r : Bool) (w : World) (hr0 : Kd.C k146 w A0 l0.length l0) (hc0 : l0.length ≤ c0) (hr1 : Kd.C k146 w A1 l1.length l1) (hc1 : l1.length ≤ c1) (h : laws_eqOpOpS.f k l0 l1 = some r) :
  Calls Try.prog 74 #[.slice A0 l0.length c0, .slice A1 l1.length c1] w fun e w' => e = .returned (.bool r) ∧ Below w.heap.size w w' := by
 have hu146 := Try.underlying146; have HR0 := Aside0.mk hr0; have HC0 := Aside0.mk hc0; clear hr0 hc0; have HR1 := Aside0.mk hr1; have HC1 := Aside0.mk hc1; clear hr1 hc1; have HB := Aside0.mk (Below.refl w.heap.size w); have H : (if (l0.length : Int) = (l1.length : Int) then (laws_eqOpOpS.l0 k l0 l1 0) else (some false)) = some r := h; clear h
 by_cases c3 : (l0.length : Int) = (l1.length : Int)
 rotate_left
 ·
  rw [if_neg c3] at H
  have d2 := beq_eq_false_iff_ne.mpr c3; have d3 := bne_iff_ne.mpr c3
  have d4 : (l0.length == l1.length) = false := by first | simpa using c3 | (simp at c3 ⊢; omega)
  obtain rfl := Option.some.inj H
  go_enter Try.func74, Try.ntmps74
  go_wp2
  go_ret
  exact ⟨by first | rfl | (simp [*, errW_none, errW_some] <;> rfl), upH HB.out⟩
 rw [if_pos c3] at H
 have d2 := beq_iff_eq.mpr c3; have d3 := bne_eq_false_iff_eq.mpr c3
 have d4 : (l0.length == l1.length) = true := by first | simpa using c3 | (simp at c3 ⊢; omega)
 clear c3; have H' := Aside0.mk H; clear H
 go_enter Try.func74, Try.ntmps74
 go_wp2
 (try simp only [Act.put, List.setIfInBounds_toArray, List.set_cons_zero, List.set_cons_succ])
 go_loopg [5] k (fun kq v5 w' => ∃ (a2 : Int), v5 = .int .i64 a2 ∧ Aside0 (laws_eqOpOpS.l0 kq l0 l1 a2 = some r) ∧ Aside0 (kq ≤ k) ∧ Aside0 (Below w.heap.size w w'))
 case atStart => exact ⟨(0), (by first | rfl | (simp; done) | (simp [*]; done)), H', ⟨Nat.le_refl _⟩, ⟨upH HB.out⟩⟩
 case round =>
  clear H'; (try clear c1); (try clear p2); (try clear c3); (try clear d2); (try clear d3); (try clear d4); obtain ⟨a2, rfl, HA, HK1, HB⟩ := hrel
  cases gk with
  | zero => exact absurd HA.out (by simp [laws_eqOpOpS.l0])
  | succ k1 =>
   have H := HA.out; clear HA
   simp only [laws_eqOpOpS.l0] at H
   by_cases c4 : a2 < (l0.length : Int)
   rotate_left
   ·
    rw [if_neg c4] at H
    have d5 : decide (a2 < (l0.length : Int)) = false := decide_eq_false c4; clear c4; obtain rfl := Option.some.inj H
    go_wp2
    go_ret
    exact ⟨by first | rfl | (simp [*, errW_none, errW_some] <;> rfl), upH HB.out⟩
   rw [if_pos c4] at H
   have d5 : decide (a2 < (l0.length : Int)) = true := decide_eq_true c4; clear c4
   by_cases c5 : 0 ≤ a2
   rotate_left
   ·
    rw [if_neg c5] at H
    exact absurd H (by simp)
   rw [if_pos c5] at H
   replace c5 := decide_eq_true c5
   by_cases c6 : a2 < (l1.length : Int)
   rotate_left
   ·
    rw [if_neg c6] at H
    exact absurd H (by simp)
   rw [if_pos c6] at H
   replace c6 := decide_eq_true c6; obtain ⟨d6, A7, H⟩ := bindA H; (try dsimp only at H)
   by_cases c8 : d6 = true
   ·
    subst c8
    rw [if_pos rfl] at H
    have H' := Aside0.mk H; clear H
    try go_wp2
    replace HB := Aside0.mk (below_drew1 HB.out); have p101 : 0 ≤ (a2 : Int) := of_decide_eq_true (by assumption); have q101 : a2 < (l0.length : Int) := of_decide_eq_true (by assumption); obtain ⟨ad101, d0, a3, a4, a5, a6, a7⟩ := at_T146 HR0.out a2 p101 q101; have b3 := a7; have b4 := a6; have b5 := a5; have b6 := a4; have b7 := a3
    cases d0
    replace a3 := (upc_ HB.out a3 :); replace a4 := (upc_ HB.out a4 :); replace a5 := (upc_ HB.out a5 :); replace a6 := (upc_ HB.out a6 :); replace a7 := (upc_ HB.out a7 :); replace p101 := eq_true p101; replace q101 := eq_true q101; have p102 : 0 ≤ (a2 : Int) := of_decide_eq_true (by assumption); have q102 : a2 < (l1.length : Int) := of_decide_eq_true (by assumption); obtain ⟨ad102, d1, a8, a9, b0, b1, b2⟩ := at_T146 HR1.out a2 p102 q102; have b8 := b2; have b9 := b1; have c2 := b0; have c7 := a9; have c9 := a8
    cases d1
    replace a8 := (upc_ HB.out a8 :); replace a9 := (upc_ HB.out a9 :); replace b0 := (upc_ HB.out b0 :); replace b1 := (upc_ HB.out b1 :); replace b2 := (upc_ HB.out b2 :); replace p102 := eq_true p102; replace q102 := eq_true q102
    refine start_ (n := 10) (S := fun w' => w'.cell? (ad101.add ((a2).toNat * 5)) = some (.int .i64 ((yaa l0 a2).f0)) ∧ w'.cell? ⟨(ad101.add ((a2).toNat * 5)).block, (ad101.add ((a2).toNat * 5)).off + 1, none⟩ = some (.int .i64 ((yaa l0 a2).f1)) ∧ w'.cell? ⟨(ad101.add ((a2).toNat * 5)).block, (ad101.add ((a2).toNat * 5)).off + 2, none⟩ = some (.int .i64 ((yaa l0 a2).f2)) ∧ w'.cell? ⟨(ad101.add ((a2).toNat * 5)).block, (ad101.add ((a2).toNat * 5)).off + 3, none⟩ = some (.int .i64 ((yaa l0 a2).f3)) ∧ w'.cell? ⟨(ad101.add ((a2).toNat * 5)).block, (ad101.add ((a2).toNat * 5)).off + 4, none⟩ = some (.int .i64 ((yaa l0 a2).f4)) ∧ w'.cell? (ad102.add ((a2).toNat * 5)) = some (.int .i64 ((yaa l1 a2).f0)) ∧ w'.cell? ⟨(ad102.add ((a2).toNat * 5)).block, (ad102.add ((a2).toNat * 5)).off + 1, none⟩ = some (.int .i64 ((yaa l1 a2).f1)) ∧ w'.cell? ⟨(ad102.add ((a2).toNat * 5)).block, (ad102.add ((a2).toNat * 5)).off + 2, none⟩ = some (.int .i64 ((yaa l1 a2).f2)) ∧ w'.cell? ⟨(ad102.add ((a2).toNat * 5)).block, (ad102.add ((a2).toNat * 5)).off + 3, none⟩ = some (.int .i64 ((yaa l1 a2).f3)) ∧ w'.cell? ⟨(ad102.add ((a2).toNat * 5)).block, (ad102.add ((a2).toNat * 5)).off + 4, none⟩ = some (.int .i64 ((yaa l1 a2).f4))) (ds := []) q74_0 (by kernel_rfl) rfl rfl ⟨(upc_ HB.out b7 :), (upc_ HB.out b6 :), (upc_ HB.out b5 :), (upc_ HB.out b4 :), (upc_ HB.out b3 :), (upc_ HB.out c9 :), (upc_ HB.out c7 :), (upc_ HB.out c2 :), (upc_ HB.out b9 :), (upc_ HB.out b8 :)⟩ (fun hHeld => ?_); refine with_tabW laws_eqOpOpS.tab6 laws_eqOpOpS.bits6 (fun HT_ HW_ => ?_)
    generalize wr.drew = w9 at HB a3 a4 a5 a6 a7 a8 a9 b0 b1 b2 hHeld ⊢
    refine pz_ 0 17 q74_1 HT_ (by kernel_rfl) ?_
    refine pz_ 1 18 q74_2 HT_ (by kernel_rfl) ?_
    refine pz_ 2 19 q74_3 HT_ (by kernel_rfl) ?_
    refine pz_ 4 21 q74_4 HT_ (by kernel_rfl) ?_
    refine pz_ 5 22 q74_5 HT_ (by kernel_rfl) ?_
    refine pz_ 6 23 q74_6 HT_ (by kernel_rfl) ?_
    refine tz_ 3 20 q74_7 HT_ HW_ (by kernel_rfl) hHeld ?_
    refine tz_ 7 24 q74_8 HT_ HW_ (by kernel_rfl) hHeld ?_
    refine one_ (i := 8) (N := some 25) q74_9 rfl rfl (one_of HT_.out (by kernel_rfl)) (by decide) (fun K hK => ?_)
    refine goes_ Try.func122 (by kernel_rfl) rfl #[.agg #[.int .i64 ((yaa l0 a2).f0), .int .i64 ((yaa l0 a2).f1), .int .i64 ((yaa l0 a2).f2), .int .i64 ((yaa l0 a2).f3), .int .i64 ((yaa l0 a2).f4)], .agg #[.int .i64 ((yaa l1 a2).f0), .int .i64 ((yaa l1 a2).f1), .int .i64 ((yaa l1 a2).f2), .int .i64 ((yaa l1 a2).f3), .int .i64 ((yaa l1 a2).f4)]] (by rfl) rfl rfl (by (try simp only [List.map_toArray, List.map_cons, List.map_nil]); first | done | rfl | (simp only [List.length_drop, List.length_take]; rfl)) ?_
    with_reducible refine (laws_eqOpOp.calls ((yaa l0 a2).f0) ((yaa l0 a2).f1) ((yaa l0 a2).f2) ((yaa l0 a2).f3) ((yaa l0 a2).f4) ((yaa l1 a2).f0) ((yaa l1 a2).f1) ((yaa l1 a2).f2) ((yaa l1 a2).f3) ((yaa l1 a2).f4) true _ A7.out).mono ?_
    rintro e w10 ⟨rfl, hb⟩; refine ⟨_, rfl, ?_⟩; replace HB := Aside0.mk (below_step (upH HB.out) hb); (try clear hb); (try clear hb2); (try clear hk); (try clear hi)
    refine hK.out _ _ ⟨(upc_ HB.out b7 :), (upc_ HB.out b6 :), (upc_ HB.out b5 :), (upc_ HB.out b4 :), (upc_ HB.out b3 :), (upc_ HB.out c9 :), (upc_ HB.out c7 :), (upc_ HB.out c2 :), (upc_ HB.out b9 :), (upc_ HB.out b8 :)⟩ (fun hHeld => ?_)
    clear hK K
    refine norm_ (a' := ?_) ?_ ?_
    rotate_left
    ·
     show Act.put _ (some 25) _ = _
     simp only [Act.put, List.setIfInBounds_toArray, List.set_cons_zero, List.set_cons_succ, i64_w, i32_w]
     rfl
    refine pz_ 9 26 q74_10 HT_ (by kernel_rfl) ?_
    refine done_ (done_of HT_.out (by kernel_rfl)) ?_
    try go_wp2
    go_roundg k1
    case measure => have := HK1.out; omega
    case rel => exact ⟨(wrap64 (a2 + 1)), (by first | rfl | (simp; done) | (simp [*]; done)), H', ⟨by have := HK1.out; omega⟩, ⟨upH HB.out⟩⟩
   replace c8 := Bool.eq_false_iff.mpr c8
   subst c8
   rw [if_neg (show ¬ (false = true) by decide)] at H
   obtain rfl := Option.some.inj H
   try go_wp2
   replace HB := Aside0.mk (below_drew1 HB.out); have p101 : 0 ≤ (a2 : Int) := of_decide_eq_true (by assumption); have q101 : a2 < (l0.length : Int) := of_decide_eq_true (by assumption); obtain ⟨ad101, d0, a3, a4, a5, a6, a7⟩ := at_T146 HR0.out a2 p101 q101; have b3 := a7; have b4 := a6; have b5 := a5; have b6 := a4; have b7 := a3
   cases d0
   replace a3 := (upc_ HB.out a3 :); replace a4 := (upc_ HB.out a4 :); replace a5 := (upc_ HB.out a5 :); replace a6 := (upc_ HB.out a6 :); replace a7 := (upc_ HB.out a7 :); replace p101 := eq_true p101; replace q101 := eq_true q101; have p102 : 0 ≤ (a2 : Int) := of_decide_eq_true (by assumption); have q102 : a2 < (l1.length : Int) := of_decide_eq_true (by assumption); obtain ⟨ad102, d1, a8, a9, b0, b1, b2⟩ := at_T146 HR1.out a2 p102 q102; have b8 := b2; have b9 := b1; have c2 := b0; have c7 := a9; have c9 := a8
   cases d1
   replace a8 := (upc_ HB.out a8 :); replace a9 := (upc_ HB.out a9 :); replace b0 := (upc_ HB.out b0 :); replace b1 := (upc_ HB.out b1 :); replace b2 := (upc_ HB.out b2 :); replace p102 := eq_true p102; replace q102 := eq_true q102
   refine start_ (n := 10) (S := fun w' => w'.cell? (ad101.add ((a2).toNat * 5)) = some (.int .i64 ((yaa l0 a2).f0)) ∧ w'.cell? ⟨(ad101.add ((a2).toNat * 5)).block, (ad101.add ((a2).toNat * 5)).off + 1, none⟩ = some (.int .i64 ((yaa l0 a2).f1)) ∧ w'.cell? ⟨(ad101.add ((a2).toNat * 5)).block, (ad101.add ((a2).toNat * 5)).off + 2, none⟩ = some (.int .i64 ((yaa l0 a2).f2)) ∧ w'.cell? ⟨(ad101.add ((a2).toNat * 5)).block, (ad101.add ((a2).toNat * 5)).off + 3, none⟩ = some (.int .i64 ((yaa l0 a2).f3)) ∧ w'.cell? ⟨(ad101.add ((a2).toNat * 5)).block, (ad101.add ((a2).toNat * 5)).off + 4, none⟩ = some (.int .i64 ((yaa l0 a2).f4)) ∧ w'.cell? (ad102.add ((a2).toNat * 5)) = some (.int .i64 ((yaa l1 a2).f0)) ∧ w'.cell? ⟨(ad102.add ((a2).toNat * 5)).block, (ad102.add ((a2).toNat * 5)).off + 1, none⟩ = some (.int .i64 ((yaa l1 a2).f1)) ∧ w'.cell? ⟨(ad102.add ((a2).toNat * 5)).block, (ad102.add ((a2).toNat * 5)).off + 2, none⟩ = some (.int .i64 ((yaa l1 a2).f2)) ∧ w'.cell? ⟨(ad102.add ((a2).toNat * 5)).block, (ad102.add ((a2).toNat * 5)).off + 3, none⟩ = some (.int .i64 ((yaa l1 a2).f3)) ∧ w'.cell? ⟨(ad102.add ((a2).toNat * 5)).block, (ad102.add ((a2).toNat * 5)).off + 4, none⟩ = some (.int .i64 ((yaa l1 a2).f4))) (ds := []) q74_0 (by kernel_rfl) rfl rfl ⟨(upc_ HB.out b7 :), (upc_ HB.out b6 :), (upc_ HB.out b5 :), (upc_ HB.out b4 :), (upc_ HB.out b3 :), (upc_ HB.out c9 :), (upc_ HB.out c7 :), (upc_ HB.out c2 :), (upc_ HB.out b9 :), (upc_ HB.out b8 :)⟩ (fun hHeld => ?_); refine with_tabW laws_eqOpOpS.tab6 laws_eqOpOpS.bits6 (fun HT_ HW_ => ?_)
   generalize wr.drew = w11 at HB a3 a4 a5 a6 a7 a8 a9 b0 b1 b2 hHeld ⊢
   refine pz_ 0 17 q74_1 HT_ (by kernel_rfl) ?_
   refine pz_ 1 18 q74_2 HT_ (by kernel_rfl) ?_
   refine pz_ 2 19 q74_3 HT_ (by kernel_rfl) ?_
   refine pz_ 4 21 q74_4 HT_ (by kernel_rfl) ?_
   refine pz_ 5 22 q74_5 HT_ (by kernel_rfl) ?_
   refine pz_ 6 23 q74_6 HT_ (by kernel_rfl) ?_
   refine tz_ 3 20 q74_7 HT_ HW_ (by kernel_rfl) hHeld ?_
   refine tz_ 7 24 q74_8 HT_ HW_ (by kernel_rfl) hHeld ?_
   refine one_ (i := 8) (N := some 25) q74_9 rfl rfl (one_of HT_.out (by kernel_rfl)) (by decide) (fun K hK => ?_)
   refine goes_ Try.func122 (by kernel_rfl) rfl #[.agg #[.int .i64 ((yaa l0 a2).f0), .int .i64 ((yaa l0 a2).f1), .int .i64 ((yaa l0 a2).f2), .int .i64 ((yaa l0 a2).f3), .int .i64 ((yaa l0 a2).f4)], .agg #[.int .i64 ((yaa l1 a2).f0), .int .i64 ((yaa l1 a2).f1), .int .i64 ((yaa l1 a2).f2), .int .i64 ((yaa l1 a2).f3), .int .i64 ((yaa l1 a2).f4)]] (by rfl) rfl rfl (by (try simp only [List.map_toArray, List.map_cons, List.map_nil]); first | done | rfl | (simp only [List.length_drop, List.length_take]; rfl)) ?_
   with_reducible refine (laws_eqOpOp.calls ((yaa l0 a2).f0) ((yaa l0 a2).f1) ((yaa l0 a2).f2) ((yaa l0 a2).f3) ((yaa l0 a2).f4) ((yaa l1 a2).f0) ((yaa l1 a2).f1) ((yaa l1 a2).f2) ((yaa l1 a2).f3) ((yaa l1 a2).f4) false _ A7.out).mono ?_
   rintro e w12 ⟨rfl, hb⟩; refine ⟨_, rfl, ?_⟩; replace HB := Aside0.mk (below_step (upH HB.out) hb); (try clear hb); (try clear hb2); (try clear hk); (try clear hi)
   refine hK.out _ _ ⟨(upc_ HB.out b7 :), (upc_ HB.out b6 :), (upc_ HB.out b5 :), (upc_ HB.out b4 :), (upc_ HB.out b3 :), (upc_ HB.out c9 :), (upc_ HB.out c7 :), (upc_ HB.out c2 :), (upc_ HB.out b9 :), (upc_ HB.out b8 :)⟩ (fun hHeld => ?_)
   clear hK K
   refine norm_ (a' := ?_) ?_ ?_
   rotate_left
   ·
    show Act.put _ (some 25) _ = _
    simp only [Act.put, List.setIfInBounds_toArray, List.set_cons_zero, List.set_cons_succ, i64_w, i32_w]
    rfl
   refine pz_ 9 26 q74_10 HT_ (by kernel_rfl) ?_
   refine done_ (done_of HT_.out (by kernel_rfl)) ?_
   try go_wp2
   go_ret
   exact ⟨by first | rfl | (simp [*, errW_none, errW_some] <;> rfl), upH HB.out⟩
end
section
open Go.Proofs.YtgpkkkmapgnhkaaW.PrintWords.Aside0 renaming mk → yaa
open Go.Proofs.YtgpkkkmapgnhkaaW.PrintWords renaming pw_below_drewN → yab, below_alloc → yac, below_drew1 → yad, below_set → yae
def laws_eqTenJob.f (k : Nat) (a0_0 : Int) (a0_1 : ByteArray) (l0_2 : List (S146)) (a0_3 : Int) (a1_0 : Int) (a1_1 : ByteArray) (l1_2 : List (S146)) (a1_3 : Int) : Option (Bool) := if a0_0 = a1_0 then (if a0_1.toList = a1_1.toList then ((laws_eqOpOpS.f k l0_2 l1_2).bind fun t103 => (if t103 = true then (if a0_3 = a1_3 then (some true) else (some false)) else (some false))) else (some false)) else (some false)
set_option maxHeartbeats 8000000 in
set_option maxRecDepth 100000 in
theorem laws_eqTenJob.calls (k : Nat) (a0_0 : Int) (a0_1 : ByteArray) (A0_2 : Option Addr) (c0_2 : Nat) (l0_2 : List (S146)) (a0_3 : Int) (a1_0 : Int) (a1_1 : ByteArray) (A1_2 : Option Addr) (c1_2 : Nat) (l1_2 : List (S146)) (a1_3 : Int) (r : Bool) (w : World) (hr0_2 : Kd.C k146 w A0_2 l0_2.length l0_2) (hc0_2 : l0_2.length ≤ c0_2) (hr1_2 : Kd.C k146 w A1_2 l1_2.length l1_2) (hc1_2 : l1_2.length ≤ c1_2) (h : laws_eqTenJob.f k a0_0 a0_1 l0_2 a0_3 a1_0 a1_1 l1_2 a1_3 = some r) :
  Calls Try.prog 130 #[.agg #[.int .i64 a0_0, .string a0_1, .slice A0_2 l0_2.length c0_2, .int .i64 a0_3], .agg #[.int .i64 a1_0, .string a1_1, .slice A1_2 l1_2.length c1_2, .int .i64 a1_3]] w fun e w' => e = .returned (.bool r) ∧ Below w.heap.size w w' := by
 have hu124 := Try.underlying124; have HR0_2 := yaa hr0_2; have HC0_2 := yaa hc0_2; clear hr0_2 hc0_2; have HR1_2 := yaa hr1_2; have HC1_2 := yaa hc1_2; clear hr1_2 hc1_2; have HB := yaa (Below.refl w.heap.size w); have H : (if a0_0 = a1_0 then (if a0_1.toList = a1_1.toList then ((laws_eqOpOpS.f k l0_2 l1_2).bind fun c1 => (if c1 = true then (if a0_3 = a1_3 then (some true) else (some false)) else (some false))) else (some false)) else (some false)) = some r := h; clear h
 by_cases c3 : a0_0 = a1_0
 rotate_left
 ·
  rw [if_neg c3] at H
  have n8 := beq_eq_false_iff_ne.mpr c3; have n9 := bne_iff_ne.mpr c3; obtain rfl := Option.some.inj H
  go_enter Try.func130, Try.ntmps130
  go_wp2_with (first | ((with_reducible refine gd_ 2 rfl ?_); refine bx_ 2 rfl #[.int .i64 a0_0, .string a0_1, .slice A0_2 l0_2.length c0_2, .int .i64 a0_3] 124 ?_; intro b2 hg w35 hbox hb; have a8 := yaa (hbox); have b4 := yaa ((by rw [hg]; exact (below_size (upH HB.out)) : w.heap.size ≤ b2)); replace HB := yaa (below_step (upH HB.out) hb); have b7 := b4; clear hb hbox hg) | ((with_reducible refine gd_ 3 rfl ?_); refine bx_ 3 rfl #[.int .i64 a1_0, .string a1_1, .slice A1_2 l1_2.length c1_2, .int .i64 a1_3] 124 ?_; intro b3 hg w36 hbox hb; have b0 := yaa (hbox); have b5 := yaa ((by rw [hg]; exact (below_size (by repeat (with_reducible first | exact HB.out | apply yac | apply yab | apply yad | refine yae ?_ (Aside0.out ‹_›)))) : w.heap.size ≤ b3)); replace HB := yaa (below_step (by repeat (with_reducible first | exact HB.out | apply yac | apply yab | apply yad | refine yae ?_ (Aside0.out ‹_›))) hb); have b8 := b5; have a9 := yaa ((by rw [hg]; exact Nat.ne_of_lt (blk_lt (upB a8.out)) : b2 ≠ b3)); replace a8 := yaa (blk_below (upB a8.out) hb); have b1 := yaa a9.out.symm; clear hb hbox hg; have p2 := a9.out; have p3 := b1.out; obtain ⟨m2, m3, m4, m5⟩ := cc4_ a8.out; obtain ⟨m6, m7, m8, m9⟩ := cf4_ a8.out; obtain ⟨n0, n1, n2, n3⟩ := cc4_ b0.out; obtain ⟨n4, n5, n6⟩ := cf3_ b0.out; have n7 := blk_frozen b0.out 3))
  go_ret
  exact ⟨by first | rfl | (simp [*, errW_none, errW_some] <;> rfl), by repeat (with_reducible first | exact HB.out | apply yac | apply yab | apply yad | refine yae ?_ (Aside0.out ‹_›))⟩
 rw [if_pos c3] at H
 have n8 := beq_iff_eq.mpr c3; have n9 := bne_eq_false_iff_eq.mpr c3; clear c3
 by_cases c4 : a0_1.toList = a1_1.toList
 rotate_left
 ·
  rw [if_neg c4] at H
  have o0 := beq_eq_false_iff_ne.mpr c4; have o1 := bne_iff_ne.mpr c4; obtain rfl := Option.some.inj H
  go_enter Try.func130, Try.ntmps130
  go_wp2_with (first | ((with_reducible refine gd_ 2 rfl ?_); refine bx_ 2 rfl #[.int .i64 a0_0, .string a0_1, .slice A0_2 l0_2.length c0_2, .int .i64 a0_3] 124 ?_; intro b2 hg w30 hbox hb; have a8 := yaa (hbox); have b4 := yaa ((by rw [hg]; exact (below_size (upH HB.out)) : w.heap.size ≤ b2)); replace HB := yaa (below_step (upH HB.out) hb); have b7 := b4; clear hb hbox hg) | ((with_reducible refine gd_ 3 rfl ?_); refine bx_ 3 rfl #[.int .i64 a1_0, .string a1_1, .slice A1_2 l1_2.length c1_2, .int .i64 a1_3] 124 ?_; intro b3 hg w31 hbox hb; have b0 := yaa (hbox); have b5 := yaa ((by rw [hg]; exact (below_size (by repeat (with_reducible first | exact HB.out | apply yac | apply yab | apply yad | refine yae ?_ (Aside0.out ‹_›)))) : w.heap.size ≤ b3)); replace HB := yaa (below_step (by repeat (with_reducible first | exact HB.out | apply yac | apply yab | apply yad | refine yae ?_ (Aside0.out ‹_›))) hb); have b8 := b5; have a9 := yaa ((by rw [hg]; exact Nat.ne_of_lt (blk_lt (upB a8.out)) : b2 ≠ b3)); replace a8 := yaa (blk_below (upB a8.out) hb); have b1 := yaa a9.out.symm; clear hb hbox hg; have p0 := a9.out; have p1 := b1.out; obtain ⟨k6, k7, k8, k9⟩ := cc4_ a8.out; obtain ⟨l0, l1, l2, l3⟩ := cf4_ a8.out; obtain ⟨l4, l5, l6, l7⟩ := cc4_ b0.out; obtain ⟨l8, l9, m0⟩ := cf3_ b0.out; have m1 := blk_frozen b0.out 3))
  go_ret
  exact ⟨by first | rfl | (simp [*, errW_none, errW_some] <;> rfl), by repeat (with_reducible first | exact HB.out | apply yac | apply yab | apply yad | refine yae ?_ (Aside0.out ‹_›))⟩
 rw [if_pos c4] at H
 have o0 := beq_iff_eq.mpr c4; have o1 := bne_eq_false_iff_eq.mpr c4; clear c4; obtain ⟨c1, A5, H⟩ := bindA H; (try dsimp only at H)
 by_cases c6 : c1 = true
 ·
  subst c6
  rw [if_pos rfl] at H
  by_cases c7 : a0_3 = a1_3
  ·
   rw [if_pos c7] at H
   have o2 := beq_iff_eq.mpr c7; have o3 := bne_eq_false_iff_eq.mpr c7; clear c7; obtain rfl := Option.some.inj H
   go_enter Try.func130, Try.ntmps130
   go_wp2_with (first | ((with_reducible refine gd_ 2 rfl ?_); refine bx_ 2 rfl #[.int .i64 a0_0, .string a0_1, .slice A0_2 l0_2.length c0_2, .int .i64 a0_3] 124 ?_; intro b2 hg w8 hbox hb; have a8 := yaa (hbox); have b4 := yaa ((by rw [hg]; exact (below_size (upH HB.out)) : w.heap.size ≤ b2)); replace HB := yaa (below_step (upH HB.out) hb); have b7 := b4; clear hb hbox hg) | ((with_reducible refine gd_ 3 rfl ?_); refine bx_ 3 rfl #[.int .i64 a1_0, .string a1_1, .slice A1_2 l1_2.length c1_2, .int .i64 a1_3] 124 ?_; intro b3 hg w9 hbox hb; have b0 := yaa (hbox); have b5 := yaa ((by rw [hg]; exact (below_size (by repeat (with_reducible first | exact HB.out | apply yac | apply yab | apply yad | refine yae ?_ (Aside0.out ‹_›)))) : w.heap.size ≤ b3)); replace HB := yaa (below_step (by repeat (with_reducible first | exact HB.out | apply yac | apply yab | apply yad | refine yae ?_ (Aside0.out ‹_›))) hb); have b8 := b5; have a9 := yaa ((by rw [hg]; exact Nat.ne_of_lt (blk_lt (upB a8.out)) : b2 ≠ b3)); replace a8 := yaa (blk_below (upB a8.out) hb); have b1 := yaa a9.out.symm; clear hb hbox hg; have o4 := a9.out; have o5 := b1.out; obtain ⟨c2, c5, c8, c9⟩ := cc4_ a8.out; obtain ⟨d0, d1, d2, d3⟩ := cf4_ a8.out; obtain ⟨d4, d5, d6, d7⟩ := cc4_ b0.out; obtain ⟨d8, d9, e0⟩ := cf3_ b0.out; have e1 := blk_frozen b0.out 3) | ((with_reducible refine gc_ 74 rfl ?_); refine gl_ (some 19) rfl Try.func74 #[.slice A0_2 l0_2.length c0_2, .slice A1_2 l1_2.length c1_2] ?_; (with_reducible refine (laws_eqOpOpS.calls k _ _ l0_2 _ _ l1_2 true _ ?side1 ?side2 ?side3 ?side4 A5.out).mono ?_); (case side1 => repeat (first | exact (Kd.C_below HR0_2.out HB.out) | (with_reducible refine Kd.C_alloc ?_ _) | (with_reducible refine Kd.C_drewN ?_ _) | (with_reducible refine Kd.C_drew ?_))); (case side2 => exact HC0_2.out); (case side3 => repeat (first | exact (Kd.C_below HR1_2.out HB.out) | (with_reducible refine Kd.C_alloc ?_ _) | (with_reducible refine Kd.C_drewN ?_ _) | (with_reducible refine Kd.C_drew ?_))); (case side4 => exact HC1_2.out); rintro e w13 ⟨rfl, hb⟩; refine ⟨_, rfl, ?_⟩; replace a8 := yaa (blk_below (upB a8.out) hb); replace b0 := yaa (blk_below (upB b0.out) hb); replace HB := yaa (below_step (by repeat (with_reducible first | exact HB.out | apply yac | apply yab | apply yad | refine yae ?_ (Aside0.out ‹_›))) hb); (try clear hb); obtain ⟨e2, e3, e4, e5⟩ := cc4_ a8.out; obtain ⟨e6, e7, e8, e9⟩ := cf4_ a8.out; obtain ⟨f0, f1, f2, f3⟩ := cc4_ b0.out; obtain ⟨f4, f5, f6⟩ := cf3_ b0.out; have f7 := blk_frozen b0.out 3))
   go_ret
   exact ⟨by first | rfl | (simp [*, errW_none, errW_some] <;> rfl), by repeat (with_reducible first | exact HB.out | apply yac | apply yab | apply yad | refine yae ?_ (Aside0.out ‹_›))⟩
  rw [if_neg c7] at H
  have o2 := beq_eq_false_iff_ne.mpr c7; have o3 := bne_iff_ne.mpr c7; obtain rfl := Option.some.inj H
  go_enter Try.func130, Try.ntmps130
  go_wp2_with (first | ((with_reducible refine gd_ 2 rfl ?_); refine bx_ 2 rfl #[.int .i64 a0_0, .string a0_1, .slice A0_2 l0_2.length c0_2, .int .i64 a0_3] 124 ?_; intro b2 hg w16 hbox hb; have a8 := yaa (hbox); have b4 := yaa ((by rw [hg]; exact (below_size (upH HB.out)) : w.heap.size ≤ b2)); replace HB := yaa (below_step (upH HB.out) hb); have b7 := b4; clear hb hbox hg) | ((with_reducible refine gd_ 3 rfl ?_); refine bx_ 3 rfl #[.int .i64 a1_0, .string a1_1, .slice A1_2 l1_2.length c1_2, .int .i64 a1_3] 124 ?_; intro b3 hg w17 hbox hb; have b0 := yaa (hbox); have b5 := yaa ((by rw [hg]; exact (below_size (by repeat (with_reducible first | exact HB.out | apply yac | apply yab | apply yad | refine yae ?_ (Aside0.out ‹_›)))) : w.heap.size ≤ b3)); replace HB := yaa (below_step (by repeat (with_reducible first | exact HB.out | apply yac | apply yab | apply yad | refine yae ?_ (Aside0.out ‹_›))) hb); have b8 := b5; have a9 := yaa ((by rw [hg]; exact Nat.ne_of_lt (blk_lt (upB a8.out)) : b2 ≠ b3)); replace a8 := yaa (blk_below (upB a8.out) hb); have b1 := yaa a9.out.symm; clear hb hbox hg; have o6 := a9.out; have o7 := b1.out; obtain ⟨f8, f9, g0, g1⟩ := cc4_ a8.out; obtain ⟨g2, g3, g4, g5⟩ := cf4_ a8.out; obtain ⟨g6, g7, g8, g9⟩ := cc4_ b0.out; obtain ⟨h0, h1, h2⟩ := cf3_ b0.out; have h3 := blk_frozen b0.out 3) | ((with_reducible refine gc_ 74 rfl ?_); refine gl_ (some 19) rfl Try.func74 #[.slice A0_2 l0_2.length c0_2, .slice A1_2 l1_2.length c1_2] ?_; (with_reducible refine (laws_eqOpOpS.calls k _ _ l0_2 _ _ l1_2 true _ ?side1 ?side2 ?side3 ?side4 A5.out).mono ?_); (case side1 => repeat (first | exact (Kd.C_below HR0_2.out HB.out) | (with_reducible refine Kd.C_alloc ?_ _) | (with_reducible refine Kd.C_drewN ?_ _) | (with_reducible refine Kd.C_drew ?_))); (case side2 => exact HC0_2.out); (case side3 => repeat (first | exact (Kd.C_below HR1_2.out HB.out) | (with_reducible refine Kd.C_alloc ?_ _) | (with_reducible refine Kd.C_drewN ?_ _) | (with_reducible refine Kd.C_drew ?_))); (case side4 => exact HC1_2.out); rintro e w21 ⟨rfl, hb⟩; refine ⟨_, rfl, ?_⟩; replace a8 := yaa (blk_below (upB a8.out) hb); replace b0 := yaa (blk_below (upB b0.out) hb); replace HB := yaa (below_step (by repeat (with_reducible first | exact HB.out | apply yac | apply yab | apply yad | refine yae ?_ (Aside0.out ‹_›))) hb); (try clear hb); obtain ⟨h4, h5, h6, h7⟩ := cc4_ a8.out; obtain ⟨h8, h9, i0, i1⟩ := cf4_ a8.out; obtain ⟨i2, i3, i4, i5⟩ := cc4_ b0.out; obtain ⟨i6, i7, i8⟩ := cf3_ b0.out; have i9 := blk_frozen b0.out 3))
  go_ret
  exact ⟨by first | rfl | (simp [*, errW_none, errW_some] <;> rfl), by repeat (with_reducible first | exact HB.out | apply yac | apply yab | apply yad | refine yae ?_ (Aside0.out ‹_›))⟩
 replace c6 := Bool.eq_false_iff.mpr c6
 subst c6
 rw [if_neg (show ¬ (false = true) by decide)] at H
 obtain rfl := Option.some.inj H
 go_enter Try.func130, Try.ntmps130
 go_wp2_with (first | ((with_reducible refine gd_ 2 rfl ?_); refine bx_ 2 rfl #[.int .i64 a0_0, .string a0_1, .slice A0_2 l0_2.length c0_2, .int .i64 a0_3] 124 ?_; intro b2 hg w24 hbox hb; have a8 := yaa (hbox); have b4 := yaa ((by rw [hg]; exact (below_size (upH HB.out)) : w.heap.size ≤ b2)); replace HB := yaa (below_step (upH HB.out) hb); have b7 := b4; clear hb hbox hg) | ((with_reducible refine gd_ 3 rfl ?_); refine bx_ 3 rfl #[.int .i64 a1_0, .string a1_1, .slice A1_2 l1_2.length c1_2, .int .i64 a1_3] 124 ?_; intro b3 hg w25 hbox hb; have b0 := yaa (hbox); have b5 := yaa ((by rw [hg]; exact (below_size (by repeat (with_reducible first | exact HB.out | apply yac | apply yab | apply yad | refine yae ?_ (Aside0.out ‹_›)))) : w.heap.size ≤ b3)); replace HB := yaa (below_step (by repeat (with_reducible first | exact HB.out | apply yac | apply yab | apply yad | refine yae ?_ (Aside0.out ‹_›))) hb); have b8 := b5; have a9 := yaa ((by rw [hg]; exact Nat.ne_of_lt (blk_lt (upB a8.out)) : b2 ≠ b3)); replace a8 := yaa (blk_below (upB a8.out) hb); have b1 := yaa a9.out.symm; clear hb hbox hg; have o8 := a9.out; have o9 := b1.out; obtain ⟨j0, j1, j2, j3⟩ := cc4_ a8.out; obtain ⟨j4, j5, j6, j7⟩ := cf4_ a8.out; obtain ⟨j8, j9, k0, k1⟩ := cc4_ b0.out; obtain ⟨k2, k3, k4⟩ := cf3_ b0.out; have k5 := blk_frozen b0.out 3) | ((with_reducible refine gc_ 74 rfl ?_); refine gl_ (some 19) rfl Try.func74 #[.slice A0_2 l0_2.length c0_2, .slice A1_2 l1_2.length c1_2] ?_; (with_reducible refine (laws_eqOpOpS.calls k _ _ l0_2 _ _ l1_2 false _ ?side1 ?side2 ?side3 ?side4 A5.out).mono ?_); (case side1 => repeat (first | exact (Kd.C_below HR0_2.out HB.out) | (with_reducible refine Kd.C_alloc ?_ _) | (with_reducible refine Kd.C_drewN ?_ _) | (with_reducible refine Kd.C_drew ?_))); (case side2 => exact HC0_2.out); (case side3 => repeat (first | exact (Kd.C_below HR1_2.out HB.out) | (with_reducible refine Kd.C_alloc ?_ _) | (with_reducible refine Kd.C_drewN ?_ _) | (with_reducible refine Kd.C_drew ?_))); (case side4 => exact HC1_2.out); rintro e w29 ⟨rfl, hb⟩; refine ⟨_, rfl, ?_⟩; replace a8 := yaa (blk_below (upB a8.out) hb); replace b0 := yaa (blk_below (upB b0.out) hb); replace HB := yaa (below_step (by repeat (with_reducible first | exact HB.out | apply yac | apply yab | apply yad | refine yae ?_ (Aside0.out ‹_›))) hb); (try clear hb)))
 go_ret
 exact ⟨by first | rfl | (simp [*, errW_none, errW_some] <;> rfl), by repeat (with_reducible first | exact HB.out | apply yac | apply yab | apply yad | refine yae ?_ (Aside0.out ‹_›))⟩
end
section
open Go.Proofs.Ytgpkkkmapgnhkaa.X renaming rd_T124 → yaa
open Go.Proofs.YtgpkkkmapgnhkaaW.PrintWords.Aside0 renaming mk → yab
abbrev q92_0 : Array Bool := Array.replicate 10 false
abbrev q92_1 : Array Bool := #[true, false, false, false, false, false, false, false, false, false]
abbrev q92_2 : Array Bool := #[true, true, false, false, false, false, false, false, false, false]
abbrev q92_3 : Array Bool := #[true, true, true, false, false, false, false, false, false, false]
abbrev q92_4 : Array Bool := #[true, true, true, false, true, false, false, false, false, false]
abbrev q92_5 : Array Bool := #[true, true, true, false, true, true, false, false, false, false]
abbrev q92_6 : Array Bool := #[true, true, true, false, true, true, true, false, false, false]
abbrev q92_7 : Array Bool := #[true, true, true, true, true, true, true, false, false, false]
abbrev q92_8 : Array Bool := #[true, true, true, true, true, true, true, true, false, false]
abbrev q92_9 : Array Bool := #[true, true, true, true, true, true, true, true, true, false]
abbrev q92_10 : Array Bool := #[true, true, true, true, true, true, true, true, true, true]
def laws_eqTenJobS.l0 : Nat → List (S124) → List (S124) → Int → Option (Bool)
 | 0, _, _, _ => none
 | k + 1, x0, x1, x5 => if x5 < (x0.length : Int) then (if 0 ≤ x5 then (if x5 < (x1.length : Int) then ((laws_eqTenJob.f k ((rd_T124 x0 x5).f0) ((rd_T124 x0 x5).f1) ((rd_T124 x0 x5).f2) ((rd_T124 x0 x5).f3) ((rd_T124 x1 x5).f0) ((rd_T124 x1 x5).f1) ((rd_T124 x1 x5).f2) ((rd_T124 x1 x5).f3)).bind fun t103 => (if t103 = true then (laws_eqTenJobS.l0 k x0 x1 (wrap64 (x5 + 1))) else (some false))) else (none)) else (none)) else (some true)
def laws_eqTenJobS.f (k : Nat) (l0 : List (S124)) (l1 : List (S124)) : Option (Bool) := if (l0.length : Int) = (l1.length : Int) then (laws_eqTenJobS.l0 k l0 l1 0) else (some false)
def laws_eqTenJobS.T6 : Bool × List (List Nat × List Nat) := (true, [([], []), ([], []), ([0, 1], [0, 1]), ([2], [2]), ([], []), ([], []), ([4, 5], [4, 5]), ([6], [6]), ([3, 7], [3, 7]), ([8], [8])])
def laws_eqTenJobS.B6 : List Nat := [0, 0, 3, 7, 0, 0, 48, 112, 255, 511]
theorem laws_eqTenJobS.tab6 : rtab .any (opsOf Try.f92 6) = laws_eqTenJobS.T6 := by kernel_rfl
theorem laws_eqTenJobS.bits6 : waitsOk laws_eqTenJobS.T6.2 laws_eqTenJobS.B6 = true := by kernel_rfl
set_option maxHeartbeats 8000000 in
set_option maxRecDepth 100000 in
theorem laws_eqTenJobS.calls (k : Nat) (A0 : Option Addr) (c0 : Nat) (l0 : List (S124)) (A1 : Option Addr) (c1 : Nat) (l1 : List (S124)) (r : Bool) (w : World) (hr0 : Kd.C k124 w A0 l0.length l0) (hc0 : l0.length ≤ c0) (hr1 : Kd.C k124 w A1 l1.length l1) (hc1 : l1.length ≤ c1) (h : laws_eqTenJobS.f k l0 l1 = some r) :
  Calls Try.prog 92 #[.slice A0 l0.length c0, .slice A1 l1.length c1] w fun e w' => e = .returned (.bool r) ∧ Below w.heap.size w w' := by
 have hu124 := Try.underlying124; have HR0 := yab hr0; have HC0 := yab hc0; clear hr0 hc0; have HR1 := yab hr1; have HC1 := yab hc1; clear hr1 hc1; have HB := yab (Below.refl w.heap.size w); have H : (if (l0.length : Int) = (l1.length : Int) then (laws_eqTenJobS.l0 k l0 l1 0) else (some false)) = some r := h; clear h
 by_cases c3 : (l0.length : Int) = (l1.length : Int)
 rotate_left
 ·
  rw [if_neg c3] at H
  have d2 := beq_eq_false_iff_ne.mpr c3; have d3 := bne_iff_ne.mpr c3
  have d4 : (l0.length == l1.length) = false := by first | simpa using c3 | (simp at c3 ⊢; omega)
  obtain rfl := Option.some.inj H
  go_enter Try.func92, Try.ntmps92
  go_wp2
  go_ret
  exact ⟨by first | rfl | (simp [*, errW_none, errW_some] <;> rfl), upH HB.out⟩
 rw [if_pos c3] at H
 have d2 := beq_iff_eq.mpr c3; have d3 := bne_eq_false_iff_eq.mpr c3
 have d4 : (l0.length == l1.length) = true := by first | simpa using c3 | (simp at c3 ⊢; omega)
 clear c3; have H' := yab H; clear H
 go_enter Try.func92, Try.ntmps92
 go_wp2
 (try simp only [Act.put, List.setIfInBounds_toArray, List.set_cons_zero, List.set_cons_succ])
 go_loopg [5] k (fun kq v5 w' => ∃ (a2 : Int), v5 = .int .i64 a2 ∧ Aside0 (laws_eqTenJobS.l0 kq l0 l1 a2 = some r) ∧ Aside0 (kq ≤ k) ∧ Aside0 (Below w.heap.size w w'))
 case atStart => exact ⟨(0), (by first | rfl | (simp; done) | (simp [*]; done)), H', ⟨Nat.le_refl _⟩, ⟨upH HB.out⟩⟩
 case round =>
  clear H'; (try clear c1); (try clear p2); (try clear c3); (try clear d2); (try clear d3); (try clear d4); obtain ⟨a2, rfl, HA, HK1, HB⟩ := hrel
  cases gk with
  | zero => exact absurd HA.out (by simp [laws_eqTenJobS.l0])
  | succ k1 =>
   have H := HA.out; clear HA
   simp only [laws_eqTenJobS.l0] at H
   by_cases c4 : a2 < (l0.length : Int)
   rotate_left
   ·
    rw [if_neg c4] at H
    have d5 : decide (a2 < (l0.length : Int)) = false := decide_eq_false c4; clear c4; obtain rfl := Option.some.inj H
    go_wp2
    go_ret
    exact ⟨by first | rfl | (simp [*, errW_none, errW_some] <;> rfl), upH HB.out⟩
   rw [if_pos c4] at H
   have d5 : decide (a2 < (l0.length : Int)) = true := decide_eq_true c4; clear c4
   by_cases c5 : 0 ≤ a2
   rotate_left
   ·
    rw [if_neg c5] at H
    exact absurd H (by simp)
   rw [if_pos c5] at H
   replace c5 := decide_eq_true c5
   by_cases c6 : a2 < (l1.length : Int)
   rotate_left
   ·
    rw [if_neg c6] at H
    exact absurd H (by simp)
   rw [if_pos c6] at H
   replace c6 := decide_eq_true c6; obtain ⟨d6, A7, H⟩ := bindA H; (try dsimp only at H)
   by_cases c8 : d6 = true
   ·
    subst c8
    rw [if_pos rfl] at H
    have H' := yab H; clear H
    try go_wp2
    replace HB := yab (below_drew1 HB.out); have p101 : 0 ≤ (a2 : Int) := of_decide_eq_true (by assumption); have q101 : a2 < (l0.length : Int) := of_decide_eq_true (by assumption); obtain ⟨ad101, b9, c2, d0, a3, a4, a5, a6, hl101_2, hi101_2⟩ := at_T124 HR0.out a2 p101 q101; have b1 := a6; have b2 := a5; have b3 := a4; have b4 := a3
    cases d0
    replace a3 := (upc_ HB.out a3 :); replace a4 := (upc_ HB.out a4 :); replace a5 := (upc_ HB.out a5 :); replace a6 := (upc_ HB.out a6 :); have HR101_2 := yab hi101_2; have HC101_2 := yab hl101_2; clear hi101_2 hl101_2; replace p101 := eq_true p101; replace q101 := eq_true q101; have p102 : 0 ≤ (a2 : Int) := of_decide_eq_true (by assumption); have q102 : a2 < (l1.length : Int) := of_decide_eq_true (by assumption); obtain ⟨ad102, c7, c9, d1, a7, a8, a9, b0, hl102_2, hi102_2⟩ := at_T124 HR1.out a2 p102 q102; have b5 := b0; have b6 := a9; have b7 := a8; have b8 := a7
    cases d1
    replace a7 := (upc_ HB.out a7 :); replace a8 := (upc_ HB.out a8 :); replace a9 := (upc_ HB.out a9 :); replace b0 := (upc_ HB.out b0 :); have HR102_2 := yab hi102_2; have HC102_2 := yab hl102_2; clear hi102_2 hl102_2; replace p102 := eq_true p102; replace q102 := eq_true q102
    refine start_ (n := 10) (S := fun w' => w'.cell? (ad101.add ((a2).toNat * 4)) = some (.int .i64 ((yaa l0 a2).f0)) ∧ w'.cell? ⟨(ad101.add ((a2).toNat * 4)).block, (ad101.add ((a2).toNat * 4)).off + 1, none⟩ = some (.string ((yaa l0 a2).f1)) ∧ w'.cell? ⟨(ad101.add ((a2).toNat * 4)).block, (ad101.add ((a2).toNat * 4)).off + 2, none⟩ = some (.slice b9 ((yaa l0 a2).f2).length c2) ∧ w'.cell? ⟨(ad101.add ((a2).toNat * 4)).block, (ad101.add ((a2).toNat * 4)).off + 3, none⟩ = some (.int .i64 ((yaa l0 a2).f3)) ∧ w'.cell? (ad102.add ((a2).toNat * 4)) = some (.int .i64 ((yaa l1 a2).f0)) ∧ w'.cell? ⟨(ad102.add ((a2).toNat * 4)).block, (ad102.add ((a2).toNat * 4)).off + 1, none⟩ = some (.string ((yaa l1 a2).f1)) ∧ w'.cell? ⟨(ad102.add ((a2).toNat * 4)).block, (ad102.add ((a2).toNat * 4)).off + 2, none⟩ = some (.slice c7 ((yaa l1 a2).f2).length c9) ∧ w'.cell? ⟨(ad102.add ((a2).toNat * 4)).block, (ad102.add ((a2).toNat * 4)).off + 3, none⟩ = some (.int .i64 ((yaa l1 a2).f3))) (ds := []) q92_0 (by kernel_rfl) rfl rfl ⟨(upc_ HB.out b4 :), (upc_ HB.out b3 :), (upc_ HB.out b2 :), (upc_ HB.out b1 :), (upc_ HB.out b8 :), (upc_ HB.out b7 :), (upc_ HB.out b6 :), (upc_ HB.out b5 :)⟩ (fun hHeld => ?_); refine with_tabW laws_eqTenJobS.tab6 laws_eqTenJobS.bits6 (fun HT_ HW_ => ?_)
    generalize wr.drew = w9 at HB HR101_2 HR102_2 a3 a4 a5 a6 a7 a8 a9 b0 hHeld ⊢
    refine pz_ 0 17 q92_1 HT_ (by kernel_rfl) ?_
    refine pz_ 1 18 q92_2 HT_ (by kernel_rfl) ?_
    refine pz_ 2 19 q92_3 HT_ (by kernel_rfl) ?_
    refine pz_ 4 21 q92_4 HT_ (by kernel_rfl) ?_
    refine pz_ 5 22 q92_5 HT_ (by kernel_rfl) ?_
    refine pz_ 6 23 q92_6 HT_ (by kernel_rfl) ?_
    refine tz_ 3 20 q92_7 HT_ HW_ (by kernel_rfl) hHeld ?_
    refine tz_ 7 24 q92_8 HT_ HW_ (by kernel_rfl) hHeld ?_
    refine one_ (i := 8) (N := some 25) q92_9 rfl rfl (one_of HT_.out (by kernel_rfl)) (by decide) (fun K hK => ?_)
    refine goes_ Try.func130 (by kernel_rfl) rfl #[.agg #[.int .i64 ((yaa l0 a2).f0), .string ((yaa l0 a2).f1), .slice b9 ((yaa l0 a2).f2).length c2, .int .i64 ((yaa l0 a2).f3)], .agg #[.int .i64 ((yaa l1 a2).f0), .string ((yaa l1 a2).f1), .slice c7 ((yaa l1 a2).f2).length c9, .int .i64 ((yaa l1 a2).f3)]] (by rfl) rfl rfl (by (try simp only [List.map_toArray, List.map_cons, List.map_nil]); first | done | rfl | (simp only [List.length_drop, List.length_take]; rfl)) ?_
    with_reducible refine (laws_eqTenJob.calls k1 ((yaa l0 a2).f0) ((yaa l0 a2).f1) _ _ ((yaa l0 a2).f2) ((yaa l0 a2).f3) ((yaa l1 a2).f0) ((yaa l1 a2).f1) _ _ ((yaa l1 a2).f2) ((yaa l1 a2).f3) true _ ?side1 ?side2 ?side3 ?side4 A7.out).mono ?_
    (case side1 => repeat (first | exact (Kd.C_below HR101_2.out HB.out) | (with_reducible refine Kd.C_alloc ?_ _) | (with_reducible refine Kd.C_drewN ?_ _) | (with_reducible refine Kd.C_drew ?_)))
    (case side2 => exact HC101_2.out)
    (case side3 => repeat (first | exact (Kd.C_below HR102_2.out HB.out) | (with_reducible refine Kd.C_alloc ?_ _) | (with_reducible refine Kd.C_drewN ?_ _) | (with_reducible refine Kd.C_drew ?_)))
    (case side4 => exact HC102_2.out)
    rintro e w10 ⟨rfl, hb⟩; refine ⟨_, rfl, ?_⟩; replace HB := yab (below_step (upH HB.out) hb); (try clear hb); (try clear hb2); (try clear hk); (try clear hi)
    refine hK.out _ _ ⟨(upc_ HB.out b4 :), (upc_ HB.out b3 :), (upc_ HB.out b2 :), (upc_ HB.out b1 :), (upc_ HB.out b8 :), (upc_ HB.out b7 :), (upc_ HB.out b6 :), (upc_ HB.out b5 :)⟩ (fun hHeld => ?_)
    clear hK K
    refine norm_ (a' := ?_) ?_ ?_
    rotate_left
    ·
     show Act.put _ (some 25) _ = _
     simp only [Act.put, List.setIfInBounds_toArray, List.set_cons_zero, List.set_cons_succ, i64_w, i32_w]
     rfl
    refine pz_ 9 26 q92_10 HT_ (by kernel_rfl) ?_
    refine done_ (done_of HT_.out (by kernel_rfl)) ?_
    try go_wp2
    go_roundg k1
    case measure => have := HK1.out; omega
    case rel => exact ⟨(wrap64 (a2 + 1)), (by first | rfl | (simp; done) | (simp [*]; done)), H', ⟨by have := HK1.out; omega⟩, ⟨upH HB.out⟩⟩
   replace c8 := Bool.eq_false_iff.mpr c8
   subst c8
   rw [if_neg (show ¬ (false = true) by decide)] at H
   obtain rfl := Option.some.inj H
   try go_wp2
   replace HB := yab (below_drew1 HB.out); have p101 : 0 ≤ (a2 : Int) := of_decide_eq_true (by assumption); have q101 : a2 < (l0.length : Int) := of_decide_eq_true (by assumption); obtain ⟨ad101, b9, c2, d0, a3, a4, a5, a6, hl101_2, hi101_2⟩ := at_T124 HR0.out a2 p101 q101; have b1 := a6; have b2 := a5; have b3 := a4; have b4 := a3
   cases d0
   replace a3 := (upc_ HB.out a3 :); replace a4 := (upc_ HB.out a4 :); replace a5 := (upc_ HB.out a5 :); replace a6 := (upc_ HB.out a6 :); have HR101_2 := yab hi101_2; have HC101_2 := yab hl101_2; clear hi101_2 hl101_2; replace p101 := eq_true p101; replace q101 := eq_true q101; have p102 : 0 ≤ (a2 : Int) := of_decide_eq_true (by assumption); have q102 : a2 < (l1.length : Int) := of_decide_eq_true (by assumption); obtain ⟨ad102, c7, c9, d1, a7, a8, a9, b0, hl102_2, hi102_2⟩ := at_T124 HR1.out a2 p102 q102; have b5 := b0; have b6 := a9; have b7 := a8; have b8 := a7
   cases d1
   replace a7 := (upc_ HB.out a7 :); replace a8 := (upc_ HB.out a8 :); replace a9 := (upc_ HB.out a9 :); replace b0 := (upc_ HB.out b0 :); have HR102_2 := yab hi102_2; have HC102_2 := yab hl102_2; clear hi102_2 hl102_2; replace p102 := eq_true p102; replace q102 := eq_true q102
   refine start_ (n := 10) (S := fun w' => w'.cell? (ad101.add ((a2).toNat * 4)) = some (.int .i64 ((yaa l0 a2).f0)) ∧ w'.cell? ⟨(ad101.add ((a2).toNat * 4)).block, (ad101.add ((a2).toNat * 4)).off + 1, none⟩ = some (.string ((yaa l0 a2).f1)) ∧ w'.cell? ⟨(ad101.add ((a2).toNat * 4)).block, (ad101.add ((a2).toNat * 4)).off + 2, none⟩ = some (.slice b9 ((yaa l0 a2).f2).length c2) ∧ w'.cell? ⟨(ad101.add ((a2).toNat * 4)).block, (ad101.add ((a2).toNat * 4)).off + 3, none⟩ = some (.int .i64 ((yaa l0 a2).f3)) ∧ w'.cell? (ad102.add ((a2).toNat * 4)) = some (.int .i64 ((yaa l1 a2).f0)) ∧ w'.cell? ⟨(ad102.add ((a2).toNat * 4)).block, (ad102.add ((a2).toNat * 4)).off + 1, none⟩ = some (.string ((yaa l1 a2).f1)) ∧ w'.cell? ⟨(ad102.add ((a2).toNat * 4)).block, (ad102.add ((a2).toNat * 4)).off + 2, none⟩ = some (.slice c7 ((yaa l1 a2).f2).length c9) ∧ w'.cell? ⟨(ad102.add ((a2).toNat * 4)).block, (ad102.add ((a2).toNat * 4)).off + 3, none⟩ = some (.int .i64 ((yaa l1 a2).f3))) (ds := []) q92_0 (by kernel_rfl) rfl rfl ⟨(upc_ HB.out b4 :), (upc_ HB.out b3 :), (upc_ HB.out b2 :), (upc_ HB.out b1 :), (upc_ HB.out b8 :), (upc_ HB.out b7 :), (upc_ HB.out b6 :), (upc_ HB.out b5 :)⟩ (fun hHeld => ?_); refine with_tabW laws_eqTenJobS.tab6 laws_eqTenJobS.bits6 (fun HT_ HW_ => ?_)
   generalize wr.drew = w11 at HB HR101_2 HR102_2 a3 a4 a5 a6 a7 a8 a9 b0 hHeld ⊢
   refine pz_ 0 17 q92_1 HT_ (by kernel_rfl) ?_
   refine pz_ 1 18 q92_2 HT_ (by kernel_rfl) ?_
   refine pz_ 2 19 q92_3 HT_ (by kernel_rfl) ?_
   refine pz_ 4 21 q92_4 HT_ (by kernel_rfl) ?_
   refine pz_ 5 22 q92_5 HT_ (by kernel_rfl) ?_
   refine pz_ 6 23 q92_6 HT_ (by kernel_rfl) ?_
   refine tz_ 3 20 q92_7 HT_ HW_ (by kernel_rfl) hHeld ?_
   refine tz_ 7 24 q92_8 HT_ HW_ (by kernel_rfl) hHeld ?_
   refine one_ (i := 8) (N := some 25) q92_9 rfl rfl (one_of HT_.out (by kernel_rfl)) (by decide) (fun K hK => ?_)
   refine goes_ Try.func130 (by kernel_rfl) rfl #[.agg #[.int .i64 ((yaa l0 a2).f0), .string ((yaa l0 a2).f1), .slice b9 ((yaa l0 a2).f2).length c2, .int .i64 ((yaa l0 a2).f3)], .agg #[.int .i64 ((yaa l1 a2).f0), .string ((yaa l1 a2).f1), .slice c7 ((yaa l1 a2).f2).length c9, .int .i64 ((yaa l1 a2).f3)]] (by rfl) rfl rfl (by (try simp only [List.map_toArray, List.map_cons, List.map_nil]); first | done | rfl | (simp only [List.length_drop, List.length_take]; rfl)) ?_
   with_reducible refine (laws_eqTenJob.calls k1 ((yaa l0 a2).f0) ((yaa l0 a2).f1) _ _ ((yaa l0 a2).f2) ((yaa l0 a2).f3) ((yaa l1 a2).f0) ((yaa l1 a2).f1) _ _ ((yaa l1 a2).f2) ((yaa l1 a2).f3) false _ ?side1 ?side2 ?side3 ?side4 A7.out).mono ?_
   (case side1 => repeat (first | exact (Kd.C_below HR101_2.out HB.out) | (with_reducible refine Kd.C_alloc ?_ _) | (with_reducible refine Kd.C_drewN ?_ _) | (with_reducible refine Kd.C_drew ?_)))
   (case side2 => exact HC101_2.out)
   (case side3 => repeat (first | exact (Kd.C_below HR102_2.out HB.out) | (with_reducible refine Kd.C_alloc ?_ _) | (with_reducible refine Kd.C_drewN ?_ _) | (with_reducible refine Kd.C_drew ?_)))
   (case side4 => exact HC102_2.out)
   rintro e w12 ⟨rfl, hb⟩; refine ⟨_, rfl, ?_⟩; replace HB := yab (below_step (upH HB.out) hb); (try clear hb); (try clear hb2); (try clear hk); (try clear hi)
   refine hK.out _ _ ⟨(upc_ HB.out b4 :), (upc_ HB.out b3 :), (upc_ HB.out b2 :), (upc_ HB.out b1 :), (upc_ HB.out b8 :), (upc_ HB.out b7 :), (upc_ HB.out b6 :), (upc_ HB.out b5 :)⟩ (fun hHeld => ?_)
   clear hK K
   refine norm_ (a' := ?_) ?_ ?_
   rotate_left
   ·
    show Act.put _ (some 25) _ = _
    simp only [Act.put, List.setIfInBounds_toArray, List.set_cons_zero, List.set_cons_succ, i64_w, i32_w]
    rfl
   refine pz_ 9 26 q92_10 HT_ (by kernel_rfl) ?_
   refine done_ (done_of HT_.out (by kernel_rfl)) ?_
   try go_wp2
   go_ret
   exact ⟨by first | rfl | (simp [*, errW_none, errW_some] <;> rfl), upH HB.out⟩
end
section
open Go.Proofs.YtgpkkkmapgnhkaaW.PrintWords.Aside0 renaming mk → yaa
open Go.Proofs.YtgpkkkmapgnhkaaW.PrintWords renaming pw_below_drewN → yab
def laws_eqTenFile.f (k : Nat) (a0_0 : ByteArray) (a0_1 : Int) (l0_2 : List Int) (a1_0 : ByteArray) (a1_1 : Int) (l1_2 : List Int) : Option (Bool) := if a0_0.toList = a1_0.toList then (if a0_1 = a1_1 then ((laws_eqByteS.f k l0_2 l1_2).bind fun t103 => (if t103 = true then (some true) else (some false))) else (some false)) else (some false)
set_option maxHeartbeats 8000000 in
set_option maxRecDepth 100000 in
theorem laws_eqTenFile.calls (k : Nat) (a0_0 : ByteArray) (a0_1 : Int) (A0_2 : Option Addr) (c0_2 : Nat) (l0_2 : List Int) (a1_0 : ByteArray) (a1_1 : Int) (A1_2 : Option Addr) (c1_2 : Nat) (l1_2 : List Int) (r : Bool) (w : World) (hr0_2 : Kd.C (Kd.int .u8) w A0_2 l0_2.length l0_2) (hc0_2 : l0_2.length ≤ c0_2) (hr1_2 : Kd.C (Kd.int .u8) w A1_2 l1_2.length l1_2) (hc1_2 : l1_2.length ≤ c1_2) (h : laws_eqTenFile.f k a0_0 a0_1 l0_2 a1_0 a1_1 l1_2 = some r) :
  Calls Try.prog 131 #[.agg #[.string a0_0, .int .i64 a0_1, .slice A0_2 l0_2.length c0_2], .agg #[.string a1_0, .int .i64 a1_1, .slice A1_2 l1_2.length c1_2]] w fun e w' => e = .returned (.bool r) ∧ Below w.heap.size w w' := by
 have hu156 := Try.underlying156; have HR0_2 := yaa hr0_2; have HC0_2 := yaa hc0_2; clear hr0_2 hc0_2; have HR1_2 := yaa hr1_2; have HC1_2 := yaa hc1_2; clear hr1_2 hc1_2; have HB := yaa (Below.refl w.heap.size w); have H : (if a0_0.toList = a1_0.toList then (if a0_1 = a1_1 then ((laws_eqByteS.f k l0_2 l1_2).bind fun b7 => (if b7 = true then (some true) else (some false))) else (some false)) else (some false)) = some r := h; clear h
 by_cases c3 : a0_0.toList = a1_0.toList
 rotate_left
 ·
  rw [if_neg c3] at H
  have h1 := beq_eq_false_iff_ne.mpr c3; have h2 := bne_iff_ne.mpr c3; obtain rfl := Option.some.inj H
  go_enter Try.func131, Try.ntmps131
  go_wp2_with (first | ((with_reducible refine gd_ 2 rfl ?_); refine bx_ 2 rfl #[.string a0_0, .int .i64 a0_1, .slice A0_2 l0_2.length c0_2] 156 ?_; intro b0 hg w22 hbox hb; have a7 := yaa (hbox); have b2 := yaa ((by rw [hg]; exact (below_size (upH HB.out)) : w.heap.size ≤ b0)); replace HB := yaa (below_step (upH HB.out) hb); have b5 := b2; clear hb hbox hg) | ((with_reducible refine gd_ 3 rfl ?_); refine bx_ 3 rfl #[.string a1_0, .int .i64 a1_1, .slice A1_2 l1_2.length c1_2] 156 ?_; intro b1 hg w23 hbox hb; have a9 := yaa (hbox); have b3 := yaa ((by rw [hg]; exact (below_size (by repeat (with_reducible first | exact HB.out | apply below_alloc | apply yab | apply below_drew1 | refine below_set ?_ (Aside0.out ‹_›)))) : w.heap.size ≤ b1)); replace HB := yaa (below_step (by repeat (with_reducible first | exact HB.out | apply below_alloc | apply yab | apply below_drew1 | refine below_set ?_ (Aside0.out ‹_›))) hb); have b6 := b3; have a6 := yaa ((by rw [hg]; exact Nat.ne_of_lt (blk_lt (upB a7.out)) : b0 ≠ b1)); replace a7 := yaa (blk_below (upB a7.out) hb); have a8 := yaa a6.out.symm; clear hb hbox hg; have h9 := a6.out; have i0 := a8.out; obtain ⟨f9, g0, g1⟩ := cc3_ a7.out; obtain ⟨g2, g3, g4⟩ := cf3_ a7.out; obtain ⟨g5, g6, g7⟩ := cc3_ a9.out; obtain ⟨g8, g9⟩ := cf2_ a9.out; have h0 := blk_frozen a9.out 2))
  go_ret
  exact ⟨by first | rfl | (simp [*, errW_none, errW_some] <;> rfl), by repeat (with_reducible first | exact HB.out | apply below_alloc | apply yab | apply below_drew1 | refine below_set ?_ (Aside0.out ‹_›))⟩
 rw [if_pos c3] at H
 have h1 := beq_iff_eq.mpr c3; have h2 := bne_eq_false_iff_eq.mpr c3; clear c3
 by_cases c4 : a0_1 = a1_1
 ·
  rw [if_pos c4] at H
  have h3 := beq_iff_eq.mpr c4; have h4 := bne_eq_false_iff_eq.mpr c4; clear c4; obtain ⟨b7, A5, H⟩ := bindA H; (try dsimp only at H)
  by_cases c6 : b7 = true
  ·
   subst c6
   rw [if_pos rfl] at H
   obtain rfl := Option.some.inj H
   go_enter Try.func131, Try.ntmps131
   go_wp2_with (first | ((with_reducible refine gd_ 2 rfl ?_); refine bx_ 2 rfl #[.string a0_0, .int .i64 a0_1, .slice A0_2 l0_2.length c0_2] 156 ?_; intro b0 hg w7 hbox hb; have a7 := yaa (hbox); have b2 := yaa ((by rw [hg]; exact (below_size (upH HB.out)) : w.heap.size ≤ b0)); replace HB := yaa (below_step (upH HB.out) hb); have b5 := b2; clear hb hbox hg) | ((with_reducible refine gd_ 3 rfl ?_); refine bx_ 3 rfl #[.string a1_0, .int .i64 a1_1, .slice A1_2 l1_2.length c1_2] 156 ?_; intro b1 hg w8 hbox hb; have a9 := yaa (hbox); have b3 := yaa ((by rw [hg]; exact (below_size (by repeat (with_reducible first | exact HB.out | apply below_alloc | apply yab | apply below_drew1 | refine below_set ?_ (Aside0.out ‹_›)))) : w.heap.size ≤ b1)); replace HB := yaa (below_step (by repeat (with_reducible first | exact HB.out | apply below_alloc | apply yab | apply below_drew1 | refine below_set ?_ (Aside0.out ‹_›))) hb); have b6 := b3; have a6 := yaa ((by rw [hg]; exact Nat.ne_of_lt (blk_lt (upB a7.out)) : b0 ≠ b1)); replace a7 := yaa (blk_below (upB a7.out) hb); have a8 := yaa a6.out.symm; clear hb hbox hg; have i1 := a6.out; have i2 := a8.out; obtain ⟨c0, c1, c2⟩ := cc3_ a7.out; obtain ⟨c5, c7, c8⟩ := cf3_ a7.out; obtain ⟨c9, d0, d1⟩ := cc3_ a9.out; obtain ⟨d2, d3⟩ := cf2_ a9.out; have d4 := blk_frozen a9.out 2) | ((with_reducible refine gc_ 67 rfl ?_); refine gl_ (some 19) rfl Try.func67 #[.slice A0_2 l0_2.length c0_2, .slice A1_2 l1_2.length c1_2] ?_; (with_reducible refine (laws_eqByteS.calls k _ _ l0_2 _ _ l1_2 true _ ?side1 ?side2 ?side3 ?side4 A5.out).mono ?_); (case side1 => repeat (first | exact (Kd.C_below HR0_2.out HB.out) | (with_reducible refine Kd.C_alloc ?_ _) | (with_reducible refine Kd.C_drewN ?_ _) | (with_reducible refine Kd.C_drew ?_))); (case side2 => exact HC0_2.out); (case side3 => repeat (first | exact (Kd.C_below HR1_2.out HB.out) | (with_reducible refine Kd.C_alloc ?_ _) | (with_reducible refine Kd.C_drewN ?_ _) | (with_reducible refine Kd.C_drew ?_))); (case side4 => exact HC1_2.out); rintro e w' ⟨rfl, ⟨nd, rfl⟩⟩; refine ⟨_, rfl, ?_⟩))
   go_ret
   exact ⟨by first | rfl | (simp [*, errW_none, errW_some] <;> rfl), by repeat (with_reducible first | exact HB.out | apply below_alloc | apply yab | apply below_drew1 | refine below_set ?_ (Aside0.out ‹_›))⟩
  replace c6 := Bool.eq_false_iff.mpr c6
  subst c6
  rw [if_neg (show ¬ (false = true) by decide)] at H
  obtain rfl := Option.some.inj H
  go_enter Try.func131, Try.ntmps131
  go_wp2_with (first | ((with_reducible refine gd_ 2 rfl ?_); refine bx_ 2 rfl #[.string a0_0, .int .i64 a0_1, .slice A0_2 l0_2.length c0_2] 156 ?_; intro b0 hg w12 hbox hb; have a7 := yaa (hbox); have b2 := yaa ((by rw [hg]; exact (below_size (upH HB.out)) : w.heap.size ≤ b0)); replace HB := yaa (below_step (upH HB.out) hb); have b5 := b2; clear hb hbox hg) | ((with_reducible refine gd_ 3 rfl ?_); refine bx_ 3 rfl #[.string a1_0, .int .i64 a1_1, .slice A1_2 l1_2.length c1_2] 156 ?_; intro b1 hg w13 hbox hb; have a9 := yaa (hbox); have b3 := yaa ((by rw [hg]; exact (below_size (by repeat (with_reducible first | exact HB.out | apply below_alloc | apply yab | apply below_drew1 | refine below_set ?_ (Aside0.out ‹_›)))) : w.heap.size ≤ b1)); replace HB := yaa (below_step (by repeat (with_reducible first | exact HB.out | apply below_alloc | apply yab | apply below_drew1 | refine below_set ?_ (Aside0.out ‹_›))) hb); have b6 := b3; have a6 := yaa ((by rw [hg]; exact Nat.ne_of_lt (blk_lt (upB a7.out)) : b0 ≠ b1)); replace a7 := yaa (blk_below (upB a7.out) hb); have a8 := yaa a6.out.symm; clear hb hbox hg; have h5 := a6.out; have h6 := a8.out; obtain ⟨d5, d6, d7⟩ := cc3_ a7.out; obtain ⟨d8, d9, e0⟩ := cf3_ a7.out; obtain ⟨e1, e2, e3⟩ := cc3_ a9.out; obtain ⟨e4, e5⟩ := cf2_ a9.out; have e6 := blk_frozen a9.out 2) | ((with_reducible refine gc_ 67 rfl ?_); refine gl_ (some 19) rfl Try.func67 #[.slice A0_2 l0_2.length c0_2, .slice A1_2 l1_2.length c1_2] ?_; (with_reducible refine (laws_eqByteS.calls k _ _ l0_2 _ _ l1_2 false _ ?side1 ?side2 ?side3 ?side4 A5.out).mono ?_); (case side1 => repeat (first | exact (Kd.C_below HR0_2.out HB.out) | (with_reducible refine Kd.C_alloc ?_ _) | (with_reducible refine Kd.C_drewN ?_ _) | (with_reducible refine Kd.C_drew ?_))); (case side2 => exact HC0_2.out); (case side3 => repeat (first | exact (Kd.C_below HR1_2.out HB.out) | (with_reducible refine Kd.C_alloc ?_ _) | (with_reducible refine Kd.C_drewN ?_ _) | (with_reducible refine Kd.C_drew ?_))); (case side4 => exact HC1_2.out); rintro e w' ⟨rfl, ⟨nd, rfl⟩⟩; refine ⟨_, rfl, ?_⟩))
  go_ret
  exact ⟨by first | rfl | (simp [*, errW_none, errW_some] <;> rfl), by repeat (with_reducible first | exact HB.out | apply below_alloc | apply yab | apply below_drew1 | refine below_set ?_ (Aside0.out ‹_›))⟩
 rw [if_neg c4] at H
 have h3 := beq_eq_false_iff_ne.mpr c4; have h4 := bne_iff_ne.mpr c4; obtain rfl := Option.some.inj H
 go_enter Try.func131, Try.ntmps131
 go_wp2_with (first | ((with_reducible refine gd_ 2 rfl ?_); refine bx_ 2 rfl #[.string a0_0, .int .i64 a0_1, .slice A0_2 l0_2.length c0_2] 156 ?_; intro b0 hg w17 hbox hb; have a7 := yaa (hbox); have b2 := yaa ((by rw [hg]; exact (below_size (upH HB.out)) : w.heap.size ≤ b0)); replace HB := yaa (below_step (upH HB.out) hb); have b5 := b2; clear hb hbox hg) | ((with_reducible refine gd_ 3 rfl ?_); refine bx_ 3 rfl #[.string a1_0, .int .i64 a1_1, .slice A1_2 l1_2.length c1_2] 156 ?_; intro b1 hg w18 hbox hb; have a9 := yaa (hbox); have b3 := yaa ((by rw [hg]; exact (below_size (by repeat (with_reducible first | exact HB.out | apply below_alloc | apply yab | apply below_drew1 | refine below_set ?_ (Aside0.out ‹_›)))) : w.heap.size ≤ b1)); replace HB := yaa (below_step (by repeat (with_reducible first | exact HB.out | apply below_alloc | apply yab | apply below_drew1 | refine below_set ?_ (Aside0.out ‹_›))) hb); have b6 := b3; have a6 := yaa ((by rw [hg]; exact Nat.ne_of_lt (blk_lt (upB a7.out)) : b0 ≠ b1)); replace a7 := yaa (blk_below (upB a7.out) hb); have a8 := yaa a6.out.symm; clear hb hbox hg; have h7 := a6.out; have h8 := a8.out; obtain ⟨e7, e8, e9⟩ := cc3_ a7.out; obtain ⟨f0, f1, f2⟩ := cf3_ a7.out; obtain ⟨f3, f4, f5⟩ := cc3_ a9.out; obtain ⟨f6, f7⟩ := cf2_ a9.out; have f8 := blk_frozen a9.out 2))
 go_ret
 exact ⟨by first | rfl | (simp [*, errW_none, errW_some] <;> rfl), by repeat (with_reducible first | exact HB.out | apply below_alloc | apply yab | apply below_drew1 | refine below_set ?_ (Aside0.out ‹_›))⟩
end
section
open Go.Proofs.Ytgpkkkmapgnhkaa.X renaming rd_T156 → yaa
open Go.Proofs.YtgpkkkmapgnhkaaW.PrintWords.Aside0 renaming mk → yab
abbrev q93_0 : Array Bool := Array.replicate 10 false
abbrev q93_1 : Array Bool := #[true, false, false, false, false, false, false, false, false, false]
abbrev q93_2 : Array Bool := #[true, true, false, false, false, false, false, false, false, false]
abbrev q93_3 : Array Bool := #[true, true, true, false, false, false, false, false, false, false]
abbrev q93_4 : Array Bool := #[true, true, true, false, true, false, false, false, false, false]
abbrev q93_5 : Array Bool := #[true, true, true, false, true, true, false, false, false, false]
abbrev q93_6 : Array Bool := #[true, true, true, false, true, true, true, false, false, false]
abbrev q93_7 : Array Bool := #[true, true, true, true, true, true, true, false, false, false]
abbrev q93_8 : Array Bool := #[true, true, true, true, true, true, true, true, false, false]
abbrev q93_9 : Array Bool := #[true, true, true, true, true, true, true, true, true, false]
abbrev q93_10 : Array Bool := #[true, true, true, true, true, true, true, true, true, true]
def laws_eqTenFileS.l0 : Nat → List (S156) → List (S156) → Int → Option (Bool)
 | 0, _, _, _ => none
 | k + 1, x0, x1, x5 => if x5 < (x0.length : Int) then (if 0 ≤ x5 then (if x5 < (x1.length : Int) then ((laws_eqTenFile.f k ((rd_T156 x0 x5).f0) ((rd_T156 x0 x5).f1) ((rd_T156 x0 x5).f2) ((rd_T156 x1 x5).f0) ((rd_T156 x1 x5).f1) ((rd_T156 x1 x5).f2)).bind fun t103 => (if t103 = true then (laws_eqTenFileS.l0 k x0 x1 (wrap64 (x5 + 1))) else (some false))) else (none)) else (none)) else (some true)
def laws_eqTenFileS.f (k : Nat) (l0 : List (S156)) (l1 : List (S156)) : Option (Bool) := if (l0.length : Int) = (l1.length : Int) then (laws_eqTenFileS.l0 k l0 l1 0) else (some false)
def laws_eqTenFileS.T6 : Bool × List (List Nat × List Nat) := (true, [([], []), ([], []), ([0, 1], [0, 1]), ([2], [2]), ([], []), ([], []), ([4, 5], [4, 5]), ([6], [6]), ([3, 7], [3, 7]), ([8], [8])])
def laws_eqTenFileS.B6 : List Nat := [0, 0, 3, 7, 0, 0, 48, 112, 255, 511]
theorem laws_eqTenFileS.tab6 : rtab .any (opsOf Try.f93 6) = laws_eqTenFileS.T6 := by kernel_rfl
theorem laws_eqTenFileS.bits6 : waitsOk laws_eqTenFileS.T6.2 laws_eqTenFileS.B6 = true := by kernel_rfl
set_option maxHeartbeats 8000000 in
set_option maxRecDepth 100000 in
theorem laws_eqTenFileS.calls (k : Nat) (A0 : Option Addr) (c0 : Nat) (l0 : List (S156)) (A1 : Option Addr) (c1 : Nat) (l1 : List (S156)) (r : Bool) (w : World) (hr0 : Kd.C k156 w A0 l0.length l0) (hc0 : l0.length ≤ c0) (hr1 : Kd.C k156 w A1 l1.length l1) (hc1 : l1.length ≤ c1) (h : laws_eqTenFileS.f k l0 l1 = some r) :
  Calls Try.prog 93 #[.slice A0 l0.length c0, .slice A1 l1.length c1] w fun e w' => e = .returned (.bool r) ∧ Below w.heap.size w w' := by
 have hu156 := Try.underlying156; have HR0 := yab hr0; have HC0 := yab hc0; clear hr0 hc0; have HR1 := yab hr1; have HC1 := yab hc1; clear hr1 hc1; have HB := yab (Below.refl w.heap.size w); have H : (if (l0.length : Int) = (l1.length : Int) then (laws_eqTenFileS.l0 k l0 l1 0) else (some false)) = some r := h; clear h
 by_cases c3 : (l0.length : Int) = (l1.length : Int)
 rotate_left
 ·
  rw [if_neg c3] at H
  have c7 := beq_eq_false_iff_ne.mpr c3; have c9 := bne_iff_ne.mpr c3
  have d0 : (l0.length == l1.length) = false := by first | simpa using c3 | (simp at c3 ⊢; omega)
  obtain rfl := Option.some.inj H
  go_enter Try.func93, Try.ntmps93
  go_wp2
  go_ret
  exact ⟨by first | rfl | (simp [*, errW_none, errW_some] <;> rfl), upH HB.out⟩
 rw [if_pos c3] at H
 have c7 := beq_iff_eq.mpr c3; have c9 := bne_eq_false_iff_eq.mpr c3
 have d0 : (l0.length == l1.length) = true := by first | simpa using c3 | (simp at c3 ⊢; omega)
 clear c3; have H' := yab H; clear H
 go_enter Try.func93, Try.ntmps93
 go_wp2
 (try simp only [Act.put, List.setIfInBounds_toArray, List.set_cons_zero, List.set_cons_succ])
 go_loopg [5] k (fun kq v5 w' => ∃ (a2 : Int), v5 = .int .i64 a2 ∧ Aside0 (laws_eqTenFileS.l0 kq l0 l1 a2 = some r) ∧ Aside0 (kq ≤ k) ∧ Aside0 (Below w.heap.size w w'))
 case atStart => exact ⟨(0), (by first | rfl | (simp; done) | (simp [*]; done)), H', ⟨Nat.le_refl _⟩, ⟨upH HB.out⟩⟩
 case round =>
  clear H'; (try clear c1); (try clear p2); (try clear c3); (try clear c7); (try clear c9); (try clear d0); obtain ⟨a2, rfl, HA, HK1, HB⟩ := hrel
  cases gk with
  | zero => exact absurd HA.out (by simp [laws_eqTenFileS.l0])
  | succ k1 =>
   have H := HA.out; clear HA
   simp only [laws_eqTenFileS.l0] at H
   by_cases c4 : a2 < (l0.length : Int)
   rotate_left
   ·
    rw [if_neg c4] at H
    have d1 : decide (a2 < (l0.length : Int)) = false := decide_eq_false c4; clear c4; obtain rfl := Option.some.inj H
    go_wp2
    go_ret
    exact ⟨by first | rfl | (simp [*, errW_none, errW_some] <;> rfl), upH HB.out⟩
   rw [if_pos c4] at H
   have d1 : decide (a2 < (l0.length : Int)) = true := decide_eq_true c4; clear c4
   by_cases c5 : 0 ≤ a2
   rotate_left
   ·
    rw [if_neg c5] at H
    exact absurd H (by simp)
   rw [if_pos c5] at H
   replace c5 := decide_eq_true c5
   by_cases c6 : a2 < (l1.length : Int)
   rotate_left
   ·
    rw [if_neg c6] at H
    exact absurd H (by simp)
   rw [if_pos c6] at H
   replace c6 := decide_eq_true c6; obtain ⟨d2, A7, H⟩ := bindA H; (try dsimp only at H)
   by_cases c8 : d2 = true
   ·
    subst c8
    rw [if_pos rfl] at H
    have H' := yab H; clear H
    try go_wp2
    replace HB := yab (below_drew1 HB.out); have p101 : 0 ≤ (a2 : Int) := of_decide_eq_true (by assumption); have q101 : a2 < (l0.length : Int) := of_decide_eq_true (by assumption); obtain ⟨ad101, b5, b6, b9, a3, a4, a5, hl101_2, hi101_2⟩ := at_T156 HR0.out a2 p101 q101; have a9 := a5; have b0 := a4; have b1 := a3
    cases b9
    replace a3 := (upc_ HB.out a3 :); replace a4 := (upc_ HB.out a4 :); replace a5 := (upc_ HB.out a5 :); have HR101_2 := yab hi101_2; have HC101_2 := yab hl101_2; clear hi101_2 hl101_2; replace p101 := eq_true p101; replace q101 := eq_true q101; have p102 : 0 ≤ (a2 : Int) := of_decide_eq_true (by assumption); have q102 : a2 < (l1.length : Int) := of_decide_eq_true (by assumption); obtain ⟨ad102, b7, b8, c2, a6, a7, a8, hl102_2, hi102_2⟩ := at_T156 HR1.out a2 p102 q102; have b2 := a8; have b3 := a7; have b4 := a6
    cases c2
    replace a6 := (upc_ HB.out a6 :); replace a7 := (upc_ HB.out a7 :); replace a8 := (upc_ HB.out a8 :); have HR102_2 := yab hi102_2; have HC102_2 := yab hl102_2; clear hi102_2 hl102_2; replace p102 := eq_true p102; replace q102 := eq_true q102
    refine start_ (n := 10) (S := fun w' => w'.cell? (ad101.add ((a2).toNat * 3)) = some (.string ((yaa l0 a2).f0)) ∧ w'.cell? ⟨(ad101.add ((a2).toNat * 3)).block, (ad101.add ((a2).toNat * 3)).off + 1, none⟩ = some (.int .i64 ((yaa l0 a2).f1)) ∧ w'.cell? ⟨(ad101.add ((a2).toNat * 3)).block, (ad101.add ((a2).toNat * 3)).off + 2, none⟩ = some (.slice b5 ((yaa l0 a2).f2).length b6) ∧ w'.cell? (ad102.add ((a2).toNat * 3)) = some (.string ((yaa l1 a2).f0)) ∧ w'.cell? ⟨(ad102.add ((a2).toNat * 3)).block, (ad102.add ((a2).toNat * 3)).off + 1, none⟩ = some (.int .i64 ((yaa l1 a2).f1)) ∧ w'.cell? ⟨(ad102.add ((a2).toNat * 3)).block, (ad102.add ((a2).toNat * 3)).off + 2, none⟩ = some (.slice b7 ((yaa l1 a2).f2).length b8)) (ds := []) q93_0 (by kernel_rfl) rfl rfl ⟨(upc_ HB.out b1 :), (upc_ HB.out b0 :), (upc_ HB.out a9 :), (upc_ HB.out b4 :), (upc_ HB.out b3 :), (upc_ HB.out b2 :)⟩ (fun hHeld => ?_); refine with_tabW laws_eqTenFileS.tab6 laws_eqTenFileS.bits6 (fun HT_ HW_ => ?_)
    generalize wr.drew = w9 at HB HR101_2 HR102_2 a3 a4 a5 a6 a7 a8 hHeld ⊢
    refine pz_ 0 17 q93_1 HT_ (by kernel_rfl) ?_
    refine pz_ 1 18 q93_2 HT_ (by kernel_rfl) ?_
    refine pz_ 2 19 q93_3 HT_ (by kernel_rfl) ?_
    refine pz_ 4 21 q93_4 HT_ (by kernel_rfl) ?_
    refine pz_ 5 22 q93_5 HT_ (by kernel_rfl) ?_
    refine pz_ 6 23 q93_6 HT_ (by kernel_rfl) ?_
    refine tz_ 3 20 q93_7 HT_ HW_ (by kernel_rfl) hHeld ?_
    refine tz_ 7 24 q93_8 HT_ HW_ (by kernel_rfl) hHeld ?_
    refine one_ (i := 8) (N := some 25) q93_9 rfl rfl (one_of HT_.out (by kernel_rfl)) (by decide) (fun K hK => ?_)
    refine goes_ Try.func131 (by kernel_rfl) rfl #[.agg #[.string ((yaa l0 a2).f0), .int .i64 ((yaa l0 a2).f1), .slice b5 ((yaa l0 a2).f2).length b6], .agg #[.string ((yaa l1 a2).f0), .int .i64 ((yaa l1 a2).f1), .slice b7 ((yaa l1 a2).f2).length b8]] (by rfl) rfl rfl (by (try simp only [List.map_toArray, List.map_cons, List.map_nil]); first | done | rfl | (simp only [List.length_drop, List.length_take]; rfl)) ?_
    with_reducible refine (laws_eqTenFile.calls k1 ((yaa l0 a2).f0) ((yaa l0 a2).f1) _ _ ((yaa l0 a2).f2) ((yaa l1 a2).f0) ((yaa l1 a2).f1) _ _ ((yaa l1 a2).f2) true _ ?side1 ?side2 ?side3 ?side4 A7.out).mono ?_
    (case side1 => repeat (first | exact (Kd.C_below HR101_2.out HB.out) | (with_reducible refine Kd.C_alloc ?_ _) | (with_reducible refine Kd.C_drewN ?_ _) | (with_reducible refine Kd.C_drew ?_)))
    (case side2 => exact HC101_2.out)
    (case side3 => repeat (first | exact (Kd.C_below HR102_2.out HB.out) | (with_reducible refine Kd.C_alloc ?_ _) | (with_reducible refine Kd.C_drewN ?_ _) | (with_reducible refine Kd.C_drew ?_)))
    (case side4 => exact HC102_2.out)
    rintro e w10 ⟨rfl, hb⟩; refine ⟨_, rfl, ?_⟩; replace HB := yab (below_step (upH HB.out) hb); (try clear hb); (try clear hb2); (try clear hk); (try clear hi)
    refine hK.out _ _ ⟨(upc_ HB.out b1 :), (upc_ HB.out b0 :), (upc_ HB.out a9 :), (upc_ HB.out b4 :), (upc_ HB.out b3 :), (upc_ HB.out b2 :)⟩ (fun hHeld => ?_)
    clear hK K
    refine norm_ (a' := ?_) ?_ ?_
    rotate_left
    ·
     show Act.put _ (some 25) _ = _
     simp only [Act.put, List.setIfInBounds_toArray, List.set_cons_zero, List.set_cons_succ, i64_w, i32_w]
     rfl
    refine pz_ 9 26 q93_10 HT_ (by kernel_rfl) ?_
    refine done_ (done_of HT_.out (by kernel_rfl)) ?_
    try go_wp2
    go_roundg k1
    case measure => have := HK1.out; omega
    case rel => exact ⟨(wrap64 (a2 + 1)), (by first | rfl | (simp; done) | (simp [*]; done)), H', ⟨by have := HK1.out; omega⟩, ⟨upH HB.out⟩⟩
   replace c8 := Bool.eq_false_iff.mpr c8
   subst c8
   rw [if_neg (show ¬ (false = true) by decide)] at H
   obtain rfl := Option.some.inj H
   try go_wp2
   replace HB := yab (below_drew1 HB.out); have p101 : 0 ≤ (a2 : Int) := of_decide_eq_true (by assumption); have q101 : a2 < (l0.length : Int) := of_decide_eq_true (by assumption); obtain ⟨ad101, b5, b6, b9, a3, a4, a5, hl101_2, hi101_2⟩ := at_T156 HR0.out a2 p101 q101; have a9 := a5; have b0 := a4; have b1 := a3
   cases b9
   replace a3 := (upc_ HB.out a3 :); replace a4 := (upc_ HB.out a4 :); replace a5 := (upc_ HB.out a5 :); have HR101_2 := yab hi101_2; have HC101_2 := yab hl101_2; clear hi101_2 hl101_2; replace p101 := eq_true p101; replace q101 := eq_true q101; have p102 : 0 ≤ (a2 : Int) := of_decide_eq_true (by assumption); have q102 : a2 < (l1.length : Int) := of_decide_eq_true (by assumption); obtain ⟨ad102, b7, b8, c2, a6, a7, a8, hl102_2, hi102_2⟩ := at_T156 HR1.out a2 p102 q102; have b2 := a8; have b3 := a7; have b4 := a6
   cases c2
   replace a6 := (upc_ HB.out a6 :); replace a7 := (upc_ HB.out a7 :); replace a8 := (upc_ HB.out a8 :); have HR102_2 := yab hi102_2; have HC102_2 := yab hl102_2; clear hi102_2 hl102_2; replace p102 := eq_true p102; replace q102 := eq_true q102
   refine start_ (n := 10) (S := fun w' => w'.cell? (ad101.add ((a2).toNat * 3)) = some (.string ((yaa l0 a2).f0)) ∧ w'.cell? ⟨(ad101.add ((a2).toNat * 3)).block, (ad101.add ((a2).toNat * 3)).off + 1, none⟩ = some (.int .i64 ((yaa l0 a2).f1)) ∧ w'.cell? ⟨(ad101.add ((a2).toNat * 3)).block, (ad101.add ((a2).toNat * 3)).off + 2, none⟩ = some (.slice b5 ((yaa l0 a2).f2).length b6) ∧ w'.cell? (ad102.add ((a2).toNat * 3)) = some (.string ((yaa l1 a2).f0)) ∧ w'.cell? ⟨(ad102.add ((a2).toNat * 3)).block, (ad102.add ((a2).toNat * 3)).off + 1, none⟩ = some (.int .i64 ((yaa l1 a2).f1)) ∧ w'.cell? ⟨(ad102.add ((a2).toNat * 3)).block, (ad102.add ((a2).toNat * 3)).off + 2, none⟩ = some (.slice b7 ((yaa l1 a2).f2).length b8)) (ds := []) q93_0 (by kernel_rfl) rfl rfl ⟨(upc_ HB.out b1 :), (upc_ HB.out b0 :), (upc_ HB.out a9 :), (upc_ HB.out b4 :), (upc_ HB.out b3 :), (upc_ HB.out b2 :)⟩ (fun hHeld => ?_); refine with_tabW laws_eqTenFileS.tab6 laws_eqTenFileS.bits6 (fun HT_ HW_ => ?_)
   generalize wr.drew = w11 at HB HR101_2 HR102_2 a3 a4 a5 a6 a7 a8 hHeld ⊢
   refine pz_ 0 17 q93_1 HT_ (by kernel_rfl) ?_
   refine pz_ 1 18 q93_2 HT_ (by kernel_rfl) ?_
   refine pz_ 2 19 q93_3 HT_ (by kernel_rfl) ?_
   refine pz_ 4 21 q93_4 HT_ (by kernel_rfl) ?_
   refine pz_ 5 22 q93_5 HT_ (by kernel_rfl) ?_
   refine pz_ 6 23 q93_6 HT_ (by kernel_rfl) ?_
   refine tz_ 3 20 q93_7 HT_ HW_ (by kernel_rfl) hHeld ?_
   refine tz_ 7 24 q93_8 HT_ HW_ (by kernel_rfl) hHeld ?_
   refine one_ (i := 8) (N := some 25) q93_9 rfl rfl (one_of HT_.out (by kernel_rfl)) (by decide) (fun K hK => ?_)
   refine goes_ Try.func131 (by kernel_rfl) rfl #[.agg #[.string ((yaa l0 a2).f0), .int .i64 ((yaa l0 a2).f1), .slice b5 ((yaa l0 a2).f2).length b6], .agg #[.string ((yaa l1 a2).f0), .int .i64 ((yaa l1 a2).f1), .slice b7 ((yaa l1 a2).f2).length b8]] (by rfl) rfl rfl (by (try simp only [List.map_toArray, List.map_cons, List.map_nil]); first | done | rfl | (simp only [List.length_drop, List.length_take]; rfl)) ?_
   with_reducible refine (laws_eqTenFile.calls k1 ((yaa l0 a2).f0) ((yaa l0 a2).f1) _ _ ((yaa l0 a2).f2) ((yaa l1 a2).f0) ((yaa l1 a2).f1) _ _ ((yaa l1 a2).f2) false _ ?side1 ?side2 ?side3 ?side4 A7.out).mono ?_
   (case side1 => repeat (first | exact (Kd.C_below HR101_2.out HB.out) | (with_reducible refine Kd.C_alloc ?_ _) | (with_reducible refine Kd.C_drewN ?_ _) | (with_reducible refine Kd.C_drew ?_)))
   (case side2 => exact HC101_2.out)
   (case side3 => repeat (first | exact (Kd.C_below HR102_2.out HB.out) | (with_reducible refine Kd.C_alloc ?_ _) | (with_reducible refine Kd.C_drewN ?_ _) | (with_reducible refine Kd.C_drew ?_)))
   (case side4 => exact HC102_2.out)
   rintro e w12 ⟨rfl, hb⟩; refine ⟨_, rfl, ?_⟩; replace HB := yab (below_step (upH HB.out) hb); (try clear hb); (try clear hb2); (try clear hk); (try clear hi)
   refine hK.out _ _ ⟨(upc_ HB.out b1 :), (upc_ HB.out b0 :), (upc_ HB.out a9 :), (upc_ HB.out b4 :), (upc_ HB.out b3 :), (upc_ HB.out b2 :)⟩ (fun hHeld => ?_)
   clear hK K
   refine norm_ (a' := ?_) ?_ ?_
   rotate_left
   ·
    show Act.put _ (some 25) _ = _
    simp only [Act.put, List.setIfInBounds_toArray, List.set_cons_zero, List.set_cons_succ, i64_w, i32_w]
    rfl
   refine pz_ 9 26 q93_10 HT_ (by kernel_rfl) ?_
   refine done_ (done_of HT_.out (by kernel_rfl)) ?_
   try go_wp2
   go_ret
   exact ⟨by first | rfl | (simp [*, errW_none, errW_some] <;> rfl), upH HB.out⟩
end
section
def laws_eqStringS.l0 : Nat → List ByteArray → List ByteArray → Int → Option (Bool)
 | 0, _, _, _ => none
 | k + 1, x0, x1, x5 => if x5 < (x0.length : Int) then (if 0 ≤ x5 then (if x5 < (x1.length : Int) then (if (rdOf ByteArray.empty x0 x5).toList = (rdOf ByteArray.empty x1 x5).toList then (laws_eqStringS.l0 k x0 x1 (wrap64 (x5 + 1))) else (some false)) else (none)) else (none)) else (some true)
def laws_eqStringS.f (k : Nat) (l0 : List ByteArray) (l1 : List ByteArray) : Option (Bool) := if (l0.length : Int) = (l1.length : Int) then (laws_eqStringS.l0 k l0 l1 0) else (some false)
set_option maxHeartbeats 8000000 in
set_option maxRecDepth 100000 in
theorem laws_eqStringS.calls (k : Nat) (A0 : Option Addr) (c0 : Nat) (l0 : List ByteArray) (A1 : Option Addr) (c1 : Nat) (l1 : List ByteArray) (r : Bool) (w : World) (hr0 : Kd.C Kd.string w A0 l0.length l0) (hc0 : l0.length ≤ c0) (hr1 : Kd.C Kd.string w A1 l1.length l1) (hc1 : l1.length ≤ c1) (h : laws_eqStringS.f k l0 l1 = some r) :
  Calls Try.prog 94 #[.slice A0 l0.length c0, .slice A1 l1.length c1] w fun e w' => e = .returned (.bool r) ∧ Drawn0 w w' := by
 have HR0 := Aside0.mk hr0; have HC0 := Aside0.mk hc0; clear hr0 hc0; have HR1 := Aside0.mk hr1; have HC1 := Aside0.mk hc1; clear hr1 hc1; have H : (if (l0.length : Int) = (l1.length : Int) then (laws_eqStringS.l0 k l0 l1 0) else (some false)) = some r := h; clear h
 by_cases c3 : (l0.length : Int) = (l1.length : Int)
 rotate_left
 ·
  rw [if_neg c3] at H
  have a7 := beq_eq_false_iff_ne.mpr c3; have a8 := bne_iff_ne.mpr c3
  have a9 : (l0.length == l1.length) = false := by first | simpa using c3 | (simp at c3 ⊢; omega)
  obtain rfl := Option.some.inj H
  go_enter Try.func94, Try.ntmps94
  go_wp2
  repeat (go_quiet (fail); try go_wp2)
  go_ret
  exact ⟨by first | rfl | (simp; done) | (simp [*]; done), by repeat (first | exact Drawn0.refl _ | apply Drawn0.step)⟩
 rw [if_pos c3] at H
 have a7 := beq_iff_eq.mpr c3; have a8 := bne_eq_false_iff_eq.mpr c3
 have a9 : (l0.length == l1.length) = true := by first | simpa using c3 | (simp at c3 ⊢; omega)
 clear c3; have H' := Aside0.mk H; clear H
 go_enter Try.func94, Try.ntmps94
 go_wp2
 repeat (go_quiet (fail); try go_wp2)
 (try simp only [Act.put, List.setIfInBounds_toArray, List.set_cons_zero, List.set_cons_succ])
 go_loopg [5] k (fun kq v5 w' => ∃ (a2 : Int), v5 = .int .i64 a2 ∧ Aside0 (laws_eqStringS.l0 kq l0 l1 a2 = some r) ∧ Aside0 (kq ≤ k) ∧ Drawn0 w w')
 case atStart => exact ⟨(0), (by first | rfl | (simp; done) | (simp [*]; done)), H', ⟨Nat.le_refl _⟩, by repeat (first | exact Drawn0.refl _ | apply Drawn0.step)⟩
 case round =>
  clear H'; (try clear c1); (try clear p2); (try clear c3); (try clear a7); (try clear a8); (try clear a9); obtain ⟨a2, rfl, HA, HK1, ⟨m1, rfl⟩⟩ := hrel
  cases gk with
  | zero => exact absurd HA.out (by simp [laws_eqStringS.l0])
  | succ k1 =>
   have H := HA.out; clear HA
   simp only [laws_eqStringS.l0] at H
   by_cases c4 : a2 < (l0.length : Int)
   rotate_left
   ·
    rw [if_neg c4] at H
    have b0 : decide (a2 < (l0.length : Int)) = false := decide_eq_false c4; clear c4; obtain rfl := Option.some.inj H
    go_wp2
    repeat (go_quiet (fail); try go_wp2)
    go_ret
    exact ⟨by first | rfl | (simp; done) | (simp [*]; done), by repeat (first | exact Drawn0.refl _ | apply Drawn0.step)⟩
   rw [if_pos c4] at H
   have b0 : decide (a2 < (l0.length : Int)) = true := decide_eq_true c4; clear c4
   by_cases c5 : 0 ≤ a2
   rotate_left
   ·
    rw [if_neg c5] at H
    exact absurd H (by simp)
   rw [if_pos c5] at H
   replace c5 := decide_eq_true c5
   by_cases c6 : a2 < (l1.length : Int)
   rotate_left
   ·
    rw [if_neg c6] at H
    exact absurd H (by simp)
   rw [if_pos c6] at H
   replace c6 := decide_eq_true c6
   by_cases c7 : (rdOf ByteArray.empty l0 a2).toList = (rdOf ByteArray.empty l1 a2).toList
   ·
    rw [if_pos c7] at H
    have b1 := beq_iff_eq.mpr c7; have b2 := bne_eq_false_iff_eq.mpr c7; clear c7; have H' := Aside0.mk H; clear H; have p101 : 0 ≤ (a2 : Int) := of_decide_eq_true (by assumption); have q101 : a2 < (l0.length : Int) := of_decide_eq_true (by assumption); obtain ⟨ad101, a5, a3⟩ := Kd.at_string HR0.out a2 p101 q101
    cases a5
    replace p101 := eq_true p101; replace q101 := eq_true q101; have p102 : 0 ≤ (a2 : Int) := of_decide_eq_true (by assumption); have q102 : a2 < (l1.length : Int) := of_decide_eq_true (by assumption); obtain ⟨ad102, a6, a4⟩ := Kd.at_string HR1.out a2 p102 q102
    cases a6
    replace p102 := eq_true p102; replace q102 := eq_true q102
    go_wp2
    repeat (go_quiet (fail); try go_wp2)
    go_roundg k1
    case measure => have := HK1.out; omega
    case rel => exact ⟨(wrap64 (a2 + 1)), (by first | rfl | (simp; done) | (simp [*]; done)), H', ⟨by have := HK1.out; omega⟩, by repeat (first | exact Drawn0.refl _ | apply Drawn0.step)⟩
   rw [if_neg c7] at H
   have b1 := beq_eq_false_iff_ne.mpr c7; have b2 := bne_iff_ne.mpr c7; obtain rfl := Option.some.inj H; have p101 : 0 ≤ (a2 : Int) := of_decide_eq_true (by assumption); have q101 : a2 < (l0.length : Int) := of_decide_eq_true (by assumption); obtain ⟨ad101, a5, a3⟩ := Kd.at_string HR0.out a2 p101 q101
   cases a5
   replace p101 := eq_true p101; replace q101 := eq_true q101; have p102 : 0 ≤ (a2 : Int) := of_decide_eq_true (by assumption); have q102 : a2 < (l1.length : Int) := of_decide_eq_true (by assumption); obtain ⟨ad102, a6, a4⟩ := Kd.at_string HR1.out a2 p102 q102
   cases a6
   replace p102 := eq_true p102; replace q102 := eq_true q102
   go_wp2
   repeat (go_quiet (fail); try go_wp2)
   go_ret
   exact ⟨by first | rfl | (simp; done) | (simp [*]; done), by repeat (first | exact Drawn0.refl _ | apply Drawn0.step)⟩
end
section
open Go.Proofs.YtgpkkkmapgnhkaaW.PrintWords.Aside0 renaming mk → yaa
open Go.Proofs.YtgpkkkmapgnhkaaW.PrintWords renaming pw_below_drewN → yab
def laws_eqTenOut.f (k : Nat) (a0_0 : Int) (a0_1 : Int) (l0_2 : List Int) (a1_0 : Int) (a1_1 : Int) (l1_2 : List Int) : Option (Bool) := if a0_0 = a1_0 then (if a0_1 = a1_1 then ((laws_eqByteS.f k l0_2 l1_2).bind fun t103 => (if t103 = true then (some true) else (some false))) else (some false)) else (some false)
set_option maxHeartbeats 8000000 in
set_option maxRecDepth 100000 in
theorem laws_eqTenOut.calls (k : Nat) (a0_0 : Int) (a0_1 : Int) (A0_2 : Option Addr) (c0_2 : Nat) (l0_2 : List Int) (a1_0 : Int) (a1_1 : Int) (A1_2 : Option Addr) (c1_2 : Nat) (l1_2 : List Int) (r : Bool) (w : World) (hr0_2 : Kd.C (Kd.int .u8) w A0_2 l0_2.length l0_2) (hc0_2 : l0_2.length ≤ c0_2) (hr1_2 : Kd.C (Kd.int .u8) w A1_2 l1_2.length l1_2) (hc1_2 : l1_2.length ≤ c1_2) (h : laws_eqTenOut.f k a0_0 a0_1 l0_2 a1_0 a1_1 l1_2 = some r) :
  Calls Try.prog 132 #[.agg #[.int .i64 a0_0, .int .i64 a0_1, .slice A0_2 l0_2.length c0_2], .agg #[.int .i64 a1_0, .int .i64 a1_1, .slice A1_2 l1_2.length c1_2]] w fun e w' => e = .returned (.bool r) ∧ Below w.heap.size w w' := by
 have hu158 := Try.underlying158; have HR0_2 := yaa hr0_2; have HC0_2 := yaa hc0_2; clear hr0_2 hc0_2; have HR1_2 := yaa hr1_2; have HC1_2 := yaa hc1_2; clear hr1_2 hc1_2; have HB := yaa (Below.refl w.heap.size w); have H : (if a0_0 = a1_0 then (if a0_1 = a1_1 then ((laws_eqByteS.f k l0_2 l1_2).bind fun b7 => (if b7 = true then (some true) else (some false))) else (some false)) else (some false)) = some r := h; clear h
 by_cases c3 : a0_0 = a1_0
 rotate_left
 ·
  rw [if_neg c3] at H
  have h1 := beq_eq_false_iff_ne.mpr c3; have h2 := bne_iff_ne.mpr c3; obtain rfl := Option.some.inj H
  go_enter Try.func132, Try.ntmps132
  go_wp2_with (first | ((with_reducible refine gd_ 2 rfl ?_); refine bx_ 2 rfl #[.int .i64 a0_0, .int .i64 a0_1, .slice A0_2 l0_2.length c0_2] 158 ?_; intro b0 hg w22 hbox hb; have a7 := yaa (hbox); have b2 := yaa ((by rw [hg]; exact (below_size (upH HB.out)) : w.heap.size ≤ b0)); replace HB := yaa (below_step (upH HB.out) hb); have b5 := b2; clear hb hbox hg) | ((with_reducible refine gd_ 3 rfl ?_); refine bx_ 3 rfl #[.int .i64 a1_0, .int .i64 a1_1, .slice A1_2 l1_2.length c1_2] 158 ?_; intro b1 hg w23 hbox hb; have a9 := yaa (hbox); have b3 := yaa ((by rw [hg]; exact (below_size (by repeat (with_reducible first | exact HB.out | apply below_alloc | apply yab | apply below_drew1 | refine below_set ?_ (Aside0.out ‹_›)))) : w.heap.size ≤ b1)); replace HB := yaa (below_step (by repeat (with_reducible first | exact HB.out | apply below_alloc | apply yab | apply below_drew1 | refine below_set ?_ (Aside0.out ‹_›))) hb); have b6 := b3; have a6 := yaa ((by rw [hg]; exact Nat.ne_of_lt (blk_lt (upB a7.out)) : b0 ≠ b1)); replace a7 := yaa (blk_below (upB a7.out) hb); have a8 := yaa a6.out.symm; clear hb hbox hg; have h9 := a6.out; have i0 := a8.out; obtain ⟨f9, g0, g1⟩ := cc3_ a7.out; obtain ⟨g2, g3, g4⟩ := cf3_ a7.out; obtain ⟨g5, g6, g7⟩ := cc3_ a9.out; obtain ⟨g8, g9⟩ := cf2_ a9.out; have h0 := blk_frozen a9.out 2))
  go_ret
  exact ⟨by first | rfl | (simp [*, errW_none, errW_some] <;> rfl), by repeat (with_reducible first | exact HB.out | apply below_alloc | apply yab | apply below_drew1 | refine below_set ?_ (Aside0.out ‹_›))⟩
 rw [if_pos c3] at H
 have h1 := beq_iff_eq.mpr c3; have h2 := bne_eq_false_iff_eq.mpr c3; clear c3
 by_cases c4 : a0_1 = a1_1
 ·
  rw [if_pos c4] at H
  have h3 := beq_iff_eq.mpr c4; have h4 := bne_eq_false_iff_eq.mpr c4; clear c4; obtain ⟨b7, A5, H⟩ := bindA H; (try dsimp only at H)
  by_cases c6 : b7 = true
  ·
   subst c6
   rw [if_pos rfl] at H
   obtain rfl := Option.some.inj H
   go_enter Try.func132, Try.ntmps132
   go_wp2_with (first | ((with_reducible refine gd_ 2 rfl ?_); refine bx_ 2 rfl #[.int .i64 a0_0, .int .i64 a0_1, .slice A0_2 l0_2.length c0_2] 158 ?_; intro b0 hg w7 hbox hb; have a7 := yaa (hbox); have b2 := yaa ((by rw [hg]; exact (below_size (upH HB.out)) : w.heap.size ≤ b0)); replace HB := yaa (below_step (upH HB.out) hb); have b5 := b2; clear hb hbox hg) | ((with_reducible refine gd_ 3 rfl ?_); refine bx_ 3 rfl #[.int .i64 a1_0, .int .i64 a1_1, .slice A1_2 l1_2.length c1_2] 158 ?_; intro b1 hg w8 hbox hb; have a9 := yaa (hbox); have b3 := yaa ((by rw [hg]; exact (below_size (by repeat (with_reducible first | exact HB.out | apply below_alloc | apply yab | apply below_drew1 | refine below_set ?_ (Aside0.out ‹_›)))) : w.heap.size ≤ b1)); replace HB := yaa (below_step (by repeat (with_reducible first | exact HB.out | apply below_alloc | apply yab | apply below_drew1 | refine below_set ?_ (Aside0.out ‹_›))) hb); have b6 := b3; have a6 := yaa ((by rw [hg]; exact Nat.ne_of_lt (blk_lt (upB a7.out)) : b0 ≠ b1)); replace a7 := yaa (blk_below (upB a7.out) hb); have a8 := yaa a6.out.symm; clear hb hbox hg; have i1 := a6.out; have i2 := a8.out; obtain ⟨c0, c1, c2⟩ := cc3_ a7.out; obtain ⟨c5, c7, c8⟩ := cf3_ a7.out; obtain ⟨c9, d0, d1⟩ := cc3_ a9.out; obtain ⟨d2, d3⟩ := cf2_ a9.out; have d4 := blk_frozen a9.out 2) | ((with_reducible refine gc_ 67 rfl ?_); refine gl_ (some 19) rfl Try.func67 #[.slice A0_2 l0_2.length c0_2, .slice A1_2 l1_2.length c1_2] ?_; (with_reducible refine (laws_eqByteS.calls k _ _ l0_2 _ _ l1_2 true _ ?side1 ?side2 ?side3 ?side4 A5.out).mono ?_); (case side1 => repeat (first | exact (Kd.C_below HR0_2.out HB.out) | (with_reducible refine Kd.C_alloc ?_ _) | (with_reducible refine Kd.C_drewN ?_ _) | (with_reducible refine Kd.C_drew ?_))); (case side2 => exact HC0_2.out); (case side3 => repeat (first | exact (Kd.C_below HR1_2.out HB.out) | (with_reducible refine Kd.C_alloc ?_ _) | (with_reducible refine Kd.C_drewN ?_ _) | (with_reducible refine Kd.C_drew ?_))); (case side4 => exact HC1_2.out); rintro e w' ⟨rfl, ⟨nd, rfl⟩⟩; refine ⟨_, rfl, ?_⟩))
   go_ret
   exact ⟨by first | rfl | (simp [*, errW_none, errW_some] <;> rfl), by repeat (with_reducible first | exact HB.out | apply below_alloc | apply yab | apply below_drew1 | refine below_set ?_ (Aside0.out ‹_›))⟩
  replace c6 := Bool.eq_false_iff.mpr c6
  subst c6
  rw [if_neg (show ¬ (false = true) by decide)] at H
  obtain rfl := Option.some.inj H
  go_enter Try.func132, Try.ntmps132
  go_wp2_with (first | ((with_reducible refine gd_ 2 rfl ?_); refine bx_ 2 rfl #[.int .i64 a0_0, .int .i64 a0_1, .slice A0_2 l0_2.length c0_2] 158 ?_; intro b0 hg w12 hbox hb; have a7 := yaa (hbox); have b2 := yaa ((by rw [hg]; exact (below_size (upH HB.out)) : w.heap.size ≤ b0)); replace HB := yaa (below_step (upH HB.out) hb); have b5 := b2; clear hb hbox hg) | ((with_reducible refine gd_ 3 rfl ?_); refine bx_ 3 rfl #[.int .i64 a1_0, .int .i64 a1_1, .slice A1_2 l1_2.length c1_2] 158 ?_; intro b1 hg w13 hbox hb; have a9 := yaa (hbox); have b3 := yaa ((by rw [hg]; exact (below_size (by repeat (with_reducible first | exact HB.out | apply below_alloc | apply yab | apply below_drew1 | refine below_set ?_ (Aside0.out ‹_›)))) : w.heap.size ≤ b1)); replace HB := yaa (below_step (by repeat (with_reducible first | exact HB.out | apply below_alloc | apply yab | apply below_drew1 | refine below_set ?_ (Aside0.out ‹_›))) hb); have b6 := b3; have a6 := yaa ((by rw [hg]; exact Nat.ne_of_lt (blk_lt (upB a7.out)) : b0 ≠ b1)); replace a7 := yaa (blk_below (upB a7.out) hb); have a8 := yaa a6.out.symm; clear hb hbox hg; have h5 := a6.out; have h6 := a8.out; obtain ⟨d5, d6, d7⟩ := cc3_ a7.out; obtain ⟨d8, d9, e0⟩ := cf3_ a7.out; obtain ⟨e1, e2, e3⟩ := cc3_ a9.out; obtain ⟨e4, e5⟩ := cf2_ a9.out; have e6 := blk_frozen a9.out 2) | ((with_reducible refine gc_ 67 rfl ?_); refine gl_ (some 19) rfl Try.func67 #[.slice A0_2 l0_2.length c0_2, .slice A1_2 l1_2.length c1_2] ?_; (with_reducible refine (laws_eqByteS.calls k _ _ l0_2 _ _ l1_2 false _ ?side1 ?side2 ?side3 ?side4 A5.out).mono ?_); (case side1 => repeat (first | exact (Kd.C_below HR0_2.out HB.out) | (with_reducible refine Kd.C_alloc ?_ _) | (with_reducible refine Kd.C_drewN ?_ _) | (with_reducible refine Kd.C_drew ?_))); (case side2 => exact HC0_2.out); (case side3 => repeat (first | exact (Kd.C_below HR1_2.out HB.out) | (with_reducible refine Kd.C_alloc ?_ _) | (with_reducible refine Kd.C_drewN ?_ _) | (with_reducible refine Kd.C_drew ?_))); (case side4 => exact HC1_2.out); rintro e w' ⟨rfl, ⟨nd, rfl⟩⟩; refine ⟨_, rfl, ?_⟩))
  go_ret
  exact ⟨by first | rfl | (simp [*, errW_none, errW_some] <;> rfl), by repeat (with_reducible first | exact HB.out | apply below_alloc | apply yab | apply below_drew1 | refine below_set ?_ (Aside0.out ‹_›))⟩
 rw [if_neg c4] at H
 have h3 := beq_eq_false_iff_ne.mpr c4; have h4 := bne_iff_ne.mpr c4; obtain rfl := Option.some.inj H
 go_enter Try.func132, Try.ntmps132
 go_wp2_with (first | ((with_reducible refine gd_ 2 rfl ?_); refine bx_ 2 rfl #[.int .i64 a0_0, .int .i64 a0_1, .slice A0_2 l0_2.length c0_2] 158 ?_; intro b0 hg w17 hbox hb; have a7 := yaa (hbox); have b2 := yaa ((by rw [hg]; exact (below_size (upH HB.out)) : w.heap.size ≤ b0)); replace HB := yaa (below_step (upH HB.out) hb); have b5 := b2; clear hb hbox hg) | ((with_reducible refine gd_ 3 rfl ?_); refine bx_ 3 rfl #[.int .i64 a1_0, .int .i64 a1_1, .slice A1_2 l1_2.length c1_2] 158 ?_; intro b1 hg w18 hbox hb; have a9 := yaa (hbox); have b3 := yaa ((by rw [hg]; exact (below_size (by repeat (with_reducible first | exact HB.out | apply below_alloc | apply yab | apply below_drew1 | refine below_set ?_ (Aside0.out ‹_›)))) : w.heap.size ≤ b1)); replace HB := yaa (below_step (by repeat (with_reducible first | exact HB.out | apply below_alloc | apply yab | apply below_drew1 | refine below_set ?_ (Aside0.out ‹_›))) hb); have b6 := b3; have a6 := yaa ((by rw [hg]; exact Nat.ne_of_lt (blk_lt (upB a7.out)) : b0 ≠ b1)); replace a7 := yaa (blk_below (upB a7.out) hb); have a8 := yaa a6.out.symm; clear hb hbox hg; have h7 := a6.out; have h8 := a8.out; obtain ⟨e7, e8, e9⟩ := cc3_ a7.out; obtain ⟨f0, f1, f2⟩ := cf3_ a7.out; obtain ⟨f3, f4, f5⟩ := cc3_ a9.out; obtain ⟨f6, f7⟩ := cf2_ a9.out; have f8 := blk_frozen a9.out 2))
 go_ret
 exact ⟨by first | rfl | (simp [*, errW_none, errW_some] <;> rfl), by repeat (with_reducible first | exact HB.out | apply below_alloc | apply yab | apply below_drew1 | refine below_set ?_ (Aside0.out ‹_›))⟩
end
section
open Go.Proofs.Ytgpkkkmapgnhkaa.X renaming rd_T158 → yaa
open Go.Proofs.YtgpkkkmapgnhkaaW.PrintWords.Aside0 renaming mk → yab
abbrev q95_0 : Array Bool := Array.replicate 10 false
abbrev q95_1 : Array Bool := #[true, false, false, false, false, false, false, false, false, false]
abbrev q95_2 : Array Bool := #[true, true, false, false, false, false, false, false, false, false]
abbrev q95_3 : Array Bool := #[true, true, true, false, false, false, false, false, false, false]
abbrev q95_4 : Array Bool := #[true, true, true, false, true, false, false, false, false, false]
abbrev q95_5 : Array Bool := #[true, true, true, false, true, true, false, false, false, false]
abbrev q95_6 : Array Bool := #[true, true, true, false, true, true, true, false, false, false]
abbrev q95_7 : Array Bool := #[true, true, true, true, true, true, true, false, false, false]
abbrev q95_8 : Array Bool := #[true, true, true, true, true, true, true, true, false, false]
abbrev q95_9 : Array Bool := #[true, true, true, true, true, true, true, true, true, false]
abbrev q95_10 : Array Bool := #[true, true, true, true, true, true, true, true, true, true]
def laws_eqTenOutS.l0 : Nat → List (S158) → List (S158) → Int → Option (Bool)
 | 0, _, _, _ => none
 | k + 1, x0, x1, x5 => if x5 < (x0.length : Int) then (if 0 ≤ x5 then (if x5 < (x1.length : Int) then ((laws_eqTenOut.f k ((rd_T158 x0 x5).f0) ((rd_T158 x0 x5).f1) ((rd_T158 x0 x5).f2) ((rd_T158 x1 x5).f0) ((rd_T158 x1 x5).f1) ((rd_T158 x1 x5).f2)).bind fun t103 => (if t103 = true then (laws_eqTenOutS.l0 k x0 x1 (wrap64 (x5 + 1))) else (some false))) else (none)) else (none)) else (some true)
def laws_eqTenOutS.f (k : Nat) (l0 : List (S158)) (l1 : List (S158)) : Option (Bool) := if (l0.length : Int) = (l1.length : Int) then (laws_eqTenOutS.l0 k l0 l1 0) else (some false)
def laws_eqTenOutS.T6 : Bool × List (List Nat × List Nat) := (true, [([], []), ([], []), ([0, 1], [0, 1]), ([2], [2]), ([], []), ([], []), ([4, 5], [4, 5]), ([6], [6]), ([3, 7], [3, 7]), ([8], [8])])
def laws_eqTenOutS.B6 : List Nat := [0, 0, 3, 7, 0, 0, 48, 112, 255, 511]
theorem laws_eqTenOutS.tab6 : rtab .any (opsOf Try.f95 6) = laws_eqTenOutS.T6 := by kernel_rfl
theorem laws_eqTenOutS.bits6 : waitsOk laws_eqTenOutS.T6.2 laws_eqTenOutS.B6 = true := by kernel_rfl
set_option maxHeartbeats 8000000 in
set_option maxRecDepth 100000 in
theorem laws_eqTenOutS.calls (k : Nat) (A0 : Option Addr) (c0 : Nat) (l0 : List (S158)) (A1 : Option Addr) (c1 : Nat) (l1 : List (S158)) (r : Bool) (w : World) (hr0 : Kd.C k158 w A0 l0.length l0) (hc0 : l0.length ≤ c0) (hr1 : Kd.C k158 w A1 l1.length l1) (hc1 : l1.length ≤ c1) (h : laws_eqTenOutS.f k l0 l1 = some r) :
  Calls Try.prog 95 #[.slice A0 l0.length c0, .slice A1 l1.length c1] w fun e w' => e = .returned (.bool r) ∧ Below w.heap.size w w' := by
 have hu158 := Try.underlying158; have HR0 := yab hr0; have HC0 := yab hc0; clear hr0 hc0; have HR1 := yab hr1; have HC1 := yab hc1; clear hr1 hc1; have HB := yab (Below.refl w.heap.size w); have H : (if (l0.length : Int) = (l1.length : Int) then (laws_eqTenOutS.l0 k l0 l1 0) else (some false)) = some r := h; clear h
 by_cases c3 : (l0.length : Int) = (l1.length : Int)
 rotate_left
 ·
  rw [if_neg c3] at H
  have c7 := beq_eq_false_iff_ne.mpr c3; have c9 := bne_iff_ne.mpr c3
  have d0 : (l0.length == l1.length) = false := by first | simpa using c3 | (simp at c3 ⊢; omega)
  obtain rfl := Option.some.inj H
  go_enter Try.func95, Try.ntmps95
  go_wp2
  go_ret
  exact ⟨by first | rfl | (simp [*, errW_none, errW_some] <;> rfl), upH HB.out⟩
 rw [if_pos c3] at H
 have c7 := beq_iff_eq.mpr c3; have c9 := bne_eq_false_iff_eq.mpr c3
 have d0 : (l0.length == l1.length) = true := by first | simpa using c3 | (simp at c3 ⊢; omega)
 clear c3; have H' := yab H; clear H
 go_enter Try.func95, Try.ntmps95
 go_wp2
 (try simp only [Act.put, List.setIfInBounds_toArray, List.set_cons_zero, List.set_cons_succ])
 go_loopg [5] k (fun kq v5 w' => ∃ (a2 : Int), v5 = .int .i64 a2 ∧ Aside0 (laws_eqTenOutS.l0 kq l0 l1 a2 = some r) ∧ Aside0 (kq ≤ k) ∧ Aside0 (Below w.heap.size w w'))
 case atStart => exact ⟨(0), (by first | rfl | (simp; done) | (simp [*]; done)), H', ⟨Nat.le_refl _⟩, ⟨upH HB.out⟩⟩
 case round =>
  clear H'; (try clear c1); (try clear p2); (try clear c3); (try clear c7); (try clear c9); (try clear d0); obtain ⟨a2, rfl, HA, HK1, HB⟩ := hrel
  cases gk with
  | zero => exact absurd HA.out (by simp [laws_eqTenOutS.l0])
  | succ k1 =>
   have H := HA.out; clear HA
   simp only [laws_eqTenOutS.l0] at H
   by_cases c4 : a2 < (l0.length : Int)
   rotate_left
   ·
    rw [if_neg c4] at H
    have d1 : decide (a2 < (l0.length : Int)) = false := decide_eq_false c4; clear c4; obtain rfl := Option.some.inj H
    go_wp2
    go_ret
    exact ⟨by first | rfl | (simp [*, errW_none, errW_some] <;> rfl), upH HB.out⟩
   rw [if_pos c4] at H
   have d1 : decide (a2 < (l0.length : Int)) = true := decide_eq_true c4; clear c4
   by_cases c5 : 0 ≤ a2
   rotate_left
   ·
    rw [if_neg c5] at H
    exact absurd H (by simp)
   rw [if_pos c5] at H
   replace c5 := decide_eq_true c5
   by_cases c6 : a2 < (l1.length : Int)
   rotate_left
   ·
    rw [if_neg c6] at H
    exact absurd H (by simp)
   rw [if_pos c6] at H
   replace c6 := decide_eq_true c6; obtain ⟨d2, A7, H⟩ := bindA H; (try dsimp only at H)
   by_cases c8 : d2 = true
   ·
    subst c8
    rw [if_pos rfl] at H
    have H' := yab H; clear H
    try go_wp2
    replace HB := yab (below_drew1 HB.out); have p101 : 0 ≤ (a2 : Int) := of_decide_eq_true (by assumption); have q101 : a2 < (l0.length : Int) := of_decide_eq_true (by assumption); obtain ⟨ad101, b5, b6, b9, a3, a4, a5, hl101_2, hi101_2⟩ := at_T158 HR0.out a2 p101 q101; have a9 := a5; have b0 := a4; have b1 := a3
    cases b9
    replace a3 := (upc_ HB.out a3 :); replace a4 := (upc_ HB.out a4 :); replace a5 := (upc_ HB.out a5 :); have HR101_2 := yab hi101_2; have HC101_2 := yab hl101_2; clear hi101_2 hl101_2; replace p101 := eq_true p101; replace q101 := eq_true q101; have p102 : 0 ≤ (a2 : Int) := of_decide_eq_true (by assumption); have q102 : a2 < (l1.length : Int) := of_decide_eq_true (by assumption); obtain ⟨ad102, b7, b8, c2, a6, a7, a8, hl102_2, hi102_2⟩ := at_T158 HR1.out a2 p102 q102; have b2 := a8; have b3 := a7; have b4 := a6
    cases c2
    replace a6 := (upc_ HB.out a6 :); replace a7 := (upc_ HB.out a7 :); replace a8 := (upc_ HB.out a8 :); have HR102_2 := yab hi102_2; have HC102_2 := yab hl102_2; clear hi102_2 hl102_2; replace p102 := eq_true p102; replace q102 := eq_true q102
    refine start_ (n := 10) (S := fun w' => w'.cell? (ad101.add ((a2).toNat * 3)) = some (.int .i64 ((yaa l0 a2).f0)) ∧ w'.cell? ⟨(ad101.add ((a2).toNat * 3)).block, (ad101.add ((a2).toNat * 3)).off + 1, none⟩ = some (.int .i64 ((yaa l0 a2).f1)) ∧ w'.cell? ⟨(ad101.add ((a2).toNat * 3)).block, (ad101.add ((a2).toNat * 3)).off + 2, none⟩ = some (.slice b5 ((yaa l0 a2).f2).length b6) ∧ w'.cell? (ad102.add ((a2).toNat * 3)) = some (.int .i64 ((yaa l1 a2).f0)) ∧ w'.cell? ⟨(ad102.add ((a2).toNat * 3)).block, (ad102.add ((a2).toNat * 3)).off + 1, none⟩ = some (.int .i64 ((yaa l1 a2).f1)) ∧ w'.cell? ⟨(ad102.add ((a2).toNat * 3)).block, (ad102.add ((a2).toNat * 3)).off + 2, none⟩ = some (.slice b7 ((yaa l1 a2).f2).length b8)) (ds := []) q95_0 (by kernel_rfl) rfl rfl ⟨(upc_ HB.out b1 :), (upc_ HB.out b0 :), (upc_ HB.out a9 :), (upc_ HB.out b4 :), (upc_ HB.out b3 :), (upc_ HB.out b2 :)⟩ (fun hHeld => ?_); refine with_tabW laws_eqTenOutS.tab6 laws_eqTenOutS.bits6 (fun HT_ HW_ => ?_)
    generalize wr.drew = w9 at HB HR101_2 HR102_2 a3 a4 a5 a6 a7 a8 hHeld ⊢
    refine pz_ 0 17 q95_1 HT_ (by kernel_rfl) ?_
    refine pz_ 1 18 q95_2 HT_ (by kernel_rfl) ?_
    refine pz_ 2 19 q95_3 HT_ (by kernel_rfl) ?_
    refine pz_ 4 21 q95_4 HT_ (by kernel_rfl) ?_
    refine pz_ 5 22 q95_5 HT_ (by kernel_rfl) ?_
    refine pz_ 6 23 q95_6 HT_ (by kernel_rfl) ?_
    refine tz_ 3 20 q95_7 HT_ HW_ (by kernel_rfl) hHeld ?_
    refine tz_ 7 24 q95_8 HT_ HW_ (by kernel_rfl) hHeld ?_
    refine one_ (i := 8) (N := some 25) q95_9 rfl rfl (one_of HT_.out (by kernel_rfl)) (by decide) (fun K hK => ?_)
    refine goes_ Try.func132 (by kernel_rfl) rfl #[.agg #[.int .i64 ((yaa l0 a2).f0), .int .i64 ((yaa l0 a2).f1), .slice b5 ((yaa l0 a2).f2).length b6], .agg #[.int .i64 ((yaa l1 a2).f0), .int .i64 ((yaa l1 a2).f1), .slice b7 ((yaa l1 a2).f2).length b8]] (by rfl) rfl rfl (by (try simp only [List.map_toArray, List.map_cons, List.map_nil]); first | done | rfl | (simp only [List.length_drop, List.length_take]; rfl)) ?_
    with_reducible refine (laws_eqTenOut.calls k1 ((yaa l0 a2).f0) ((yaa l0 a2).f1) _ _ ((yaa l0 a2).f2) ((yaa l1 a2).f0) ((yaa l1 a2).f1) _ _ ((yaa l1 a2).f2) true _ ?side1 ?side2 ?side3 ?side4 A7.out).mono ?_
    (case side1 => repeat (first | exact (Kd.C_below HR101_2.out HB.out) | (with_reducible refine Kd.C_alloc ?_ _) | (with_reducible refine Kd.C_drewN ?_ _) | (with_reducible refine Kd.C_drew ?_)))
    (case side2 => exact HC101_2.out)
    (case side3 => repeat (first | exact (Kd.C_below HR102_2.out HB.out) | (with_reducible refine Kd.C_alloc ?_ _) | (with_reducible refine Kd.C_drewN ?_ _) | (with_reducible refine Kd.C_drew ?_)))
    (case side4 => exact HC102_2.out)
    rintro e w10 ⟨rfl, hb⟩; refine ⟨_, rfl, ?_⟩; replace HB := yab (below_step (upH HB.out) hb); (try clear hb); (try clear hb2); (try clear hk); (try clear hi)
    refine hK.out _ _ ⟨(upc_ HB.out b1 :), (upc_ HB.out b0 :), (upc_ HB.out a9 :), (upc_ HB.out b4 :), (upc_ HB.out b3 :), (upc_ HB.out b2 :)⟩ (fun hHeld => ?_)
    clear hK K
    refine norm_ (a' := ?_) ?_ ?_
    rotate_left
    ·
     show Act.put _ (some 25) _ = _
     simp only [Act.put, List.setIfInBounds_toArray, List.set_cons_zero, List.set_cons_succ, i64_w, i32_w]
     rfl
    refine pz_ 9 26 q95_10 HT_ (by kernel_rfl) ?_
    refine done_ (done_of HT_.out (by kernel_rfl)) ?_
    try go_wp2
    go_roundg k1
    case measure => have := HK1.out; omega
    case rel => exact ⟨(wrap64 (a2 + 1)), (by first | rfl | (simp; done) | (simp [*]; done)), H', ⟨by have := HK1.out; omega⟩, ⟨upH HB.out⟩⟩
   replace c8 := Bool.eq_false_iff.mpr c8
   subst c8
   rw [if_neg (show ¬ (false = true) by decide)] at H
   obtain rfl := Option.some.inj H
   try go_wp2
   replace HB := yab (below_drew1 HB.out); have p101 : 0 ≤ (a2 : Int) := of_decide_eq_true (by assumption); have q101 : a2 < (l0.length : Int) := of_decide_eq_true (by assumption); obtain ⟨ad101, b5, b6, b9, a3, a4, a5, hl101_2, hi101_2⟩ := at_T158 HR0.out a2 p101 q101; have a9 := a5; have b0 := a4; have b1 := a3
   cases b9
   replace a3 := (upc_ HB.out a3 :); replace a4 := (upc_ HB.out a4 :); replace a5 := (upc_ HB.out a5 :); have HR101_2 := yab hi101_2; have HC101_2 := yab hl101_2; clear hi101_2 hl101_2; replace p101 := eq_true p101; replace q101 := eq_true q101; have p102 : 0 ≤ (a2 : Int) := of_decide_eq_true (by assumption); have q102 : a2 < (l1.length : Int) := of_decide_eq_true (by assumption); obtain ⟨ad102, b7, b8, c2, a6, a7, a8, hl102_2, hi102_2⟩ := at_T158 HR1.out a2 p102 q102; have b2 := a8; have b3 := a7; have b4 := a6
   cases c2
   replace a6 := (upc_ HB.out a6 :); replace a7 := (upc_ HB.out a7 :); replace a8 := (upc_ HB.out a8 :); have HR102_2 := yab hi102_2; have HC102_2 := yab hl102_2; clear hi102_2 hl102_2; replace p102 := eq_true p102; replace q102 := eq_true q102
   refine start_ (n := 10) (S := fun w' => w'.cell? (ad101.add ((a2).toNat * 3)) = some (.int .i64 ((yaa l0 a2).f0)) ∧ w'.cell? ⟨(ad101.add ((a2).toNat * 3)).block, (ad101.add ((a2).toNat * 3)).off + 1, none⟩ = some (.int .i64 ((yaa l0 a2).f1)) ∧ w'.cell? ⟨(ad101.add ((a2).toNat * 3)).block, (ad101.add ((a2).toNat * 3)).off + 2, none⟩ = some (.slice b5 ((yaa l0 a2).f2).length b6) ∧ w'.cell? (ad102.add ((a2).toNat * 3)) = some (.int .i64 ((yaa l1 a2).f0)) ∧ w'.cell? ⟨(ad102.add ((a2).toNat * 3)).block, (ad102.add ((a2).toNat * 3)).off + 1, none⟩ = some (.int .i64 ((yaa l1 a2).f1)) ∧ w'.cell? ⟨(ad102.add ((a2).toNat * 3)).block, (ad102.add ((a2).toNat * 3)).off + 2, none⟩ = some (.slice b7 ((yaa l1 a2).f2).length b8)) (ds := []) q95_0 (by kernel_rfl) rfl rfl ⟨(upc_ HB.out b1 :), (upc_ HB.out b0 :), (upc_ HB.out a9 :), (upc_ HB.out b4 :), (upc_ HB.out b3 :), (upc_ HB.out b2 :)⟩ (fun hHeld => ?_); refine with_tabW laws_eqTenOutS.tab6 laws_eqTenOutS.bits6 (fun HT_ HW_ => ?_)
   generalize wr.drew = w11 at HB HR101_2 HR102_2 a3 a4 a5 a6 a7 a8 hHeld ⊢
   refine pz_ 0 17 q95_1 HT_ (by kernel_rfl) ?_
   refine pz_ 1 18 q95_2 HT_ (by kernel_rfl) ?_
   refine pz_ 2 19 q95_3 HT_ (by kernel_rfl) ?_
   refine pz_ 4 21 q95_4 HT_ (by kernel_rfl) ?_
   refine pz_ 5 22 q95_5 HT_ (by kernel_rfl) ?_
   refine pz_ 6 23 q95_6 HT_ (by kernel_rfl) ?_
   refine tz_ 3 20 q95_7 HT_ HW_ (by kernel_rfl) hHeld ?_
   refine tz_ 7 24 q95_8 HT_ HW_ (by kernel_rfl) hHeld ?_
   refine one_ (i := 8) (N := some 25) q95_9 rfl rfl (one_of HT_.out (by kernel_rfl)) (by decide) (fun K hK => ?_)
   refine goes_ Try.func132 (by kernel_rfl) rfl #[.agg #[.int .i64 ((yaa l0 a2).f0), .int .i64 ((yaa l0 a2).f1), .slice b5 ((yaa l0 a2).f2).length b6], .agg #[.int .i64 ((yaa l1 a2).f0), .int .i64 ((yaa l1 a2).f1), .slice b7 ((yaa l1 a2).f2).length b8]] (by rfl) rfl rfl (by (try simp only [List.map_toArray, List.map_cons, List.map_nil]); first | done | rfl | (simp only [List.length_drop, List.length_take]; rfl)) ?_
   with_reducible refine (laws_eqTenOut.calls k1 ((yaa l0 a2).f0) ((yaa l0 a2).f1) _ _ ((yaa l0 a2).f2) ((yaa l1 a2).f0) ((yaa l1 a2).f1) _ _ ((yaa l1 a2).f2) false _ ?side1 ?side2 ?side3 ?side4 A7.out).mono ?_
   (case side1 => repeat (first | exact (Kd.C_below HR101_2.out HB.out) | (with_reducible refine Kd.C_alloc ?_ _) | (with_reducible refine Kd.C_drewN ?_ _) | (with_reducible refine Kd.C_drew ?_)))
   (case side2 => exact HC101_2.out)
   (case side3 => repeat (first | exact (Kd.C_below HR102_2.out HB.out) | (with_reducible refine Kd.C_alloc ?_ _) | (with_reducible refine Kd.C_drewN ?_ _) | (with_reducible refine Kd.C_drew ?_)))
   (case side4 => exact HC102_2.out)
   rintro e w12 ⟨rfl, hb⟩; refine ⟨_, rfl, ?_⟩; replace HB := yab (below_step (upH HB.out) hb); (try clear hb); (try clear hb2); (try clear hk); (try clear hi)
   refine hK.out _ _ ⟨(upc_ HB.out b1 :), (upc_ HB.out b0 :), (upc_ HB.out a9 :), (upc_ HB.out b4 :), (upc_ HB.out b3 :), (upc_ HB.out b2 :)⟩ (fun hHeld => ?_)
   clear hK K
   refine norm_ (a' := ?_) ?_ ?_
   rotate_left
   ·
    show Act.put _ (some 25) _ = _
    simp only [Act.put, List.setIfInBounds_toArray, List.set_cons_zero, List.set_cons_succ, i64_w, i32_w]
    rfl
   refine pz_ 9 26 q95_10 HT_ (by kernel_rfl) ?_
   refine done_ (done_of HT_.out (by kernel_rfl)) ?_
   try go_wp2
   go_ret
   exact ⟨by first | rfl | (simp [*, errW_none, errW_some] <;> rfl), upH HB.out⟩
end
end Go.Proofs.Ytgpkkkmapgnhkaa.X
