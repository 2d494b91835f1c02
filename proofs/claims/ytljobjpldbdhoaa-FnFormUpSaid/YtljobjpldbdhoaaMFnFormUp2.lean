/- Lemmas and contracts for the law FnFormUp, part 2: of the program's functions, and over data alone. No condition. -/
import Derived.Test.YtljobjpldbdhoaaMFnFormUp1
import Derived.Test.YtljobjpldbdhoaaProg
import Derived.Below
import Derived.Deep.Draws
import Derived.Deep.AppendLies
import Derived.Maps.AppendAt
import Derived.OwnWalk
import Derived.Laws.BytesArg
import Derived.Laws.MakeOwn
import Derived.Laws.OwnMore
import Derived.Deep.OwnRows
import Derived.Tactics
import Derived.Lib.ConvBytes
import Derived.Laws.Slices
import Derived.WalkKit
import Derived.KernelRfl
import Derived.RowKit3
import Derived.Deep.LoopGhost
import Derived.Deep.QuietTactic
import Derived.BigQuiet
import Derived.WideLaws
import Derived.Deep.DeepCutAuto
import Derived.Deep.CutBlock
import Derived.Deep.RegionHeld3
import Derived.Laws.Rows
import Derived.Lib.AppendStr
import Derived.ArgAppend
import Derived.Laws.IdiomCopy
import Derived.OrdersHeld
import Derived.Laws.BitsLemmas
import Derived.RowKit
namespace Go.Proofs.YtljobjpldbdhoaaW.PrintLast
open Go.RowKit Go.Proofs.YtljobjpldbdhoaaW.PrintWords
variable {P : Program} {ops : Array Oper} {Q : Exit → Act → World → Prop} {S : World → Prop} {ds : List Nat}
/-- An operation that yields in every world. -/
theorem pz_ {T : Bool × List (List Nat × List Nat)} {oi : Oper} {v : Value} {fuel : Nat} {l : Array Bool} {a : Act} {w : World} (i d : Nat) (l' : Array Bool) (hT : Aside0 (rtab .any ops = T)) (hc : anyT T l.toList l'.toList i = true) {a' : Act}
    (h : wpAnyLast P .any ops Q S ds fuel l' a' w)
    (hi : ops[i]? = some oi := by rfl) (hN : oi.dst = some d := by rfl) (hw : Region.wanted oi (yielded ops a.tmps) = true := by rfl)
    (hy : ∀ w', (execOp a.eval oi).run P w' = .ok (.value v) w' := by (intro w'; go_simp; with_reducible rfl))
    (ha : a.put (some d) v = a' := by (simp only [Act.put, List.setIfInBounds_toArray, List.set_cons_zero, List.set_cons_succ, i64_w, i32_w]; rfl))
    (hQ : ∀ c a w, Q (.panic c) (a.put oi.dst v) w → Q (.panic c) a w := by exact fun _ _ _ h => h) :
    wpAnyLast P .any ops Q S ds (fuel + 1) l a w :=
  pure_ l' hi hN (any_of hT.out hc) hQ (Or.inl ⟨hw, hy⟩) ha h
/-- An operation that reads what S says. -/
theorem tz_ {T : Bool × List (List Nat × List Nat)} {B : List Nat} {oi : Oper} {v : Value} {fuel : Nat} {l : Array Bool} {a : Act} {w : World} (i d : Nat) (l' : Array Bool) (hT : Aside0 (rtab .any ops = T)) (hB : Aside0 (waitsOk T.2 B = true)) (hc : takeW T B ds l.toList l'.toList i = true) (hS : S w) {a' : Act}
    (h : wpAnyLast P .any ops Q S ds fuel l' a' w)
    (hi : ops[i]? = some oi := by rfl) (hN : oi.dst = some d := by rfl) (hw : Region.wanted oi (yielded ops a.tmps) = true := by rfl)
    (hy : ∀ w', S w' → (execOp a.eval oi).run P w' = .ok (.value v) w' := by (intro w' hs; go_simp; with_reducible rfl))
    (ha : a.put (some d) v = a' := by (simp only [Act.put, List.setIfInBounds_toArray, List.set_cons_zero, List.set_cons_succ, i64_w, i32_w]; rfl))
    (hQ : ∀ c a w, Q (.panic c) (a.put oi.dst v) w → Q (.panic c) a w := by exact fun _ _ _ h => h) :
    wpAnyLast P .any ops Q S ds (fuel + 1) l a w :=
  take_ l' hi hN (take_ofW hT.out hB.out hc) hQ (Or.inl ⟨hw, hy⟩) hS ha h
/-! ### What is kept in a world that was made of another one by making blocks and by drawing -/
class UpW (w w' : World) : Prop where
  step : ∀ K : World → Prop, (∀ v O, K v → K (v.alloc O)) → (∀ v, K v → K v.drew) → (∀ v n, K v → K (v.drewN n)) → K w → K w'
instance upw_refl (w : World) : UpW w w := ⟨fun _ _ _ _ h => h⟩
instance upw_alloc (w w' : World) (O : Obj) [h : UpW w w'] : UpW w (w'.alloc O) := ⟨fun K a b c k => a _ _ (h.step K a b c k)⟩
instance upw_drew (w w' : World) [h : UpW w w'] : UpW w w'.drew := ⟨fun K a b c k => b _ (h.step K a b c k)⟩
instance upw_drewN (w w' : World) (n : Nat) [h : UpW w w'] : UpW w (w'.drewN n) := ⟨fun K a b c k => c _ _ (h.step K a b c k)⟩
theorem upB {w w' : World} {g : Nat} {o : Obj} (h : w.heap[g]? = some o) [u : UpW w w'] : w'.heap[g]? = some o := u.step (fun v => v.heap[g]? = some o) (fun _ O k => blk_alloc k O) (fun _ k => blk_drew k) (fun _ n k => blk_drewN k n) h
theorem upR {α : Type} {d : Kd α} {e base : Nat} {ok : Nat → Prop} {w w' : World} {v : Value} {xs : List α} (h : d.R e w base ok v xs) [u : UpW w w'] : d.R e w' base ok v xs := u.step (fun x => d.R e x base ok v xs) (fun _ O k => Kd.R_alloc k O) (fun _ k => Kd.R_drew k) (fun _ n k => Kd.R_drewN k n) h
theorem upQ {α : Type} {d : Kd α} {e base : Nat} {ok : Nat → Prop} {w w' : World} {v : Value} {xs : List α} (h : d.Q e w base ok v xs) [u : UpW w w'] : d.Q e w' base ok v xs := u.step (fun x => d.Q e x base ok v xs) (fun _ O k => Kd.Q_alloc k O) (fun _ k => Kd.Q_drew k) (fun _ n k => Kd.Q_drewN k n) h
theorem upV {α : Type} {d : Kd α} {e base : Nat} {ok : Nat → Prop} {w w' : World} {v : Value} {xs : List α} (h : Kd.V d e w base ok v xs) [u : UpW w w'] : Kd.V d e w' base ok v xs := u.step (fun x => Kd.V d e x base ok v xs) (fun _ O k => Kd.V_alloc k O) (fun _ k => Kd.V_drew k) (fun _ n k => Kd.V_drewN k n) h
theorem upH {w0 w w' : World} (h : Below w0.heap.size w0 w) [u : UpW w w'] : Below w0.heap.size w0 w' := u.step (fun x => Below w0.heap.size w0 x) (fun _ O k => below_alloc k O) (fun _ k => below_drew1 k) (fun _ n k => pw_below_drewN k n) h
/-- One world made of another by making a block or by drawing. -/
class OneW (w : outParam World) (w' : World) : Prop where
  up : UpW w w'
instance onew_alloc (w : World) (O : Obj) : OneW w (w.alloc O) := ⟨inferInstance⟩
instance onew_drew (w : World) : OneW w w.drew := ⟨inferInstance⟩
instance onew_drewN (w : World) (n : Nat) : OneW w (w.drewN n) := ⟨inferInstance⟩
theorem oneB {w w' : World} {g : Nat} {o : Obj} (h : w.heap[g]? = some o) [u : OneW w w'] : w'.heap[g]? = some o := @upB _ _ _ _ h u.up
/-! ### Cells of a block -/
section
variable {w : World} {g t : Nat} {a b c d e f i j k : Value}
theorem cc3_ (h : w.heap[g]? = some (.cells #[a, b, c] t (0, 0))) : w.cell? ⟨g, 0, none⟩ = some a ∧ w.cell? ⟨g, 1, none⟩ = some b ∧ w.cell? ⟨g, 2, none⟩ = some c := ⟨(blk_cell h 0).trans rfl, (blk_cell h 1).trans rfl, (blk_cell h 2).trans rfl⟩
theorem cc4_ (h : w.heap[g]? = some (.cells #[a, b, c, d] t (0, 0))) : w.cell? ⟨g, 0, none⟩ = some a ∧ w.cell? ⟨g, 1, none⟩ = some b ∧ w.cell? ⟨g, 2, none⟩ = some c ∧ w.cell? ⟨g, 3, none⟩ = some d := ⟨(blk_cell h 0).trans rfl, (blk_cell h 1).trans rfl, (blk_cell h 2).trans rfl, (blk_cell h 3).trans rfl⟩
theorem cc5_ (h : w.heap[g]? = some (.cells #[a, b, c, d, e] t (0, 0))) : w.cell? ⟨g, 0, none⟩ = some a ∧ w.cell? ⟨g, 1, none⟩ = some b ∧ w.cell? ⟨g, 2, none⟩ = some c ∧ w.cell? ⟨g, 3, none⟩ = some d ∧ w.cell? ⟨g, 4, none⟩ = some e := ⟨(blk_cell h 0).trans rfl, (blk_cell h 1).trans rfl, (blk_cell h 2).trans rfl, (blk_cell h 3).trans rfl, (blk_cell h 4).trans rfl⟩
variable {cs : Array Value}
theorem cf2_ (h : w.heap[g]? = some (.cells cs t (0, 0))) : w.frozen? ⟨g, 0, none⟩ = false ∧ w.frozen? ⟨g, 1, none⟩ = false := ⟨blk_frozen h 0, blk_frozen h 1⟩
theorem cf3_ (h : w.heap[g]? = some (.cells cs t (0, 0))) : w.frozen? ⟨g, 0, none⟩ = false ∧ w.frozen? ⟨g, 1, none⟩ = false ∧ w.frozen? ⟨g, 2, none⟩ = false := ⟨blk_frozen h 0, blk_frozen h 1, blk_frozen h 2⟩
theorem cf4_ (h : w.heap[g]? = some (.cells cs t (0, 0))) : w.frozen? ⟨g, 0, none⟩ = false ∧ w.frozen? ⟨g, 1, none⟩ = false ∧ w.frozen? ⟨g, 2, none⟩ = false ∧ w.frozen? ⟨g, 3, none⟩ = false := ⟨blk_frozen h 0, blk_frozen h 1, blk_frozen h 2, blk_frozen h 3⟩
theorem cf5_ (h : w.heap[g]? = some (.cells cs t (0, 0))) : w.frozen? ⟨g, 0, none⟩ = false ∧ w.frozen? ⟨g, 1, none⟩ = false ∧ w.frozen? ⟨g, 2, none⟩ = false ∧ w.frozen? ⟨g, 3, none⟩ = false ∧ w.frozen? ⟨g, 4, none⟩ = false := ⟨blk_frozen h 0, blk_frozen h 1, blk_frozen h 2, blk_frozen h 3, blk_frozen h 4⟩
end
theorem upc_ {w w' : World} {a : Addr} {v : Value} (hb : Below w.heap.size w w') (h : w.cell? a = some v) : w'.cell? a = some v := (hb.cell (World.block_lt_of_cell? w _ h)).trans h
/-- A step of what a function comes to. -/
theorem bindA {α β : Type} {x : Option α} {f : α → Option β} {r : β} (H : x.bind f = some r) : ∃ a, Aside0 (x = some a) ∧ f a = some r := by
  obtain ⟨a, h, k⟩ := Option.bind_eq_some_iff.mp H
  exact ⟨a, ⟨h⟩, k⟩
/-- n signs, off a number. -/
def bl_ (n m : Nat) : Array Bool := ((List.range n).map fun i => m.testBit i).toArray
theorem bindY {α β : Type} {L : α} {F : α → Option β} {r : Option β} (H : (some L).bind F = r) : ∃ y, y = L ∧ F y = r := ⟨L, rfl, H⟩
theorem offA_ {b x y : Bool} {P : Prop} (h : b = x) (hxy : (x == y) = false := by decide) (h1 : b = y) : P := by
  subst h; subst h1; simp at hxy
section
variable {P : Program} {ops : Array Oper} {rest : List Oper} {o : Oper} {a : Act} {Q : Exit → Act → World → Prop}
/-- A block is made. -/
theorem bx_ {W : World} (N : Tmp) (hd : o.dst = some N) (cs : Array Value) (t : TypeId)
    (h : ∀ g, g = W.heap.size → ∀ w1, w1.heap[g]? = some (.cells cs t (0, 0)) → Below W.heap.size W w1 → wpList P ops Q rest (a.put o.dst (.pointer (some ⟨g, 0, none⟩))) w1)
    (hg : o.guard = none := by first | rfl | (simp [Region.wanted, yielded, *]; done))
    (hr : (execOp a.eval o).run P W = .ok (.value (.pointer (some ⟨W.heap.size, 0, none⟩))) (W.alloc (.cells cs t (0, 0))) := by first | (go_simp; done) | (go_simp; rfl)) : wpList P ops Q (o :: rest) a W := box_event hg hd hr h
theorem gc_ (f : FuncId) {W : World} {as1 : Array Operand} {ts : Array TypeId} (_ho : o.op = .call { callee := .value (.func f), args := as1, argTypes := ts }) (h : wpList P ops Q (o :: rest) a W) : wpList P ops Q (o :: rest) a W := h
theorem gd_ (N : Tmp) {W : World} (_hN : o.dst = some N) (h : wpList P ops Q (o :: rest) a W) : wpList P ops Q (o :: rest) a W := h
/-- A call. -/
theorem gl_ {w : World} (N : Option Tmp) (hd : o.dst = N) {f : FuncId} {fn : Func} {aa : Array Operand} {ts : Array TypeId} (hf : P.funcs[f]? = some fn) (args : Array Value)
    (h : Calls P f args w fun e w' => ∃ v, e = .returned v ∧ wpList P ops Q rest (a.put N v) w') (hg : o.guard = none := by rfl) (hname : (fn.name == "runtime.NumGoroutine") = false := by kernel_rfl) (hb : fn.body.isSome = true := by rfl)
    (hop : o.op = .call { callee := .value (.func f), args := aa, argTypes := ts } := by rfl) (hargs : aa.map a.eval = args := by ((try simp only [List.map_toArray, List.map_cons, List.map_nil]); first | done | rfl | (simp only [List.length_drop, List.length_take]; rfl))) : wpList P ops Q (o :: rest) a w :=
  goesL_ N hd hg hf hname hb args hop hargs h
end
end Go.Proofs.YtljobjpldbdhoaaW.PrintLast
namespace Go.Proofs.Ytljobjpldbdhoaa.X
open Go.RowKit Go.Proofs.YtljobjpldbdhoaaW.PrintWords Go.Proofs.YtljobjpldbdhoaaW.PrintLast Go.Proofs.YtljobjpldbdhoaaW.PrintMore
attribute [local go_sem] max2_int min2_int max_two min_two max_three min_three max_four min_four
set_option linter.unusedVariables false
set_option linter.unusedSimpArgs false

section
def errW : Option Int → Value
  | none => .nilIface
  | some c => .iface 0 (.int .i64 c)
theorem errW_none : errW none = .nilIface := rfl
theorem errW_some (c : Int) : errW (some c) = .iface 0 (.int .i64 c) := rfl

theorem info5 : (Try.prog.info? 5).map (fun i => (i.zero, i.size, i.bytes)) = some (some (.int .u8 0), 1, 1) := by kernel_rfl
theorem info53 : (Try.prog.info? 53).map (fun i => (i.zero, i.size, i.bytes)) = some (some (.agg #[(.int .i64 0), (.int .i64 0), (.int .i64 0), (.int .i64 0)]), 4, 32) := by kernel_rfl
-- the values' own types
/-! #### struct type 53 -/
structure S53 where
  f0 : Int
  f1 : Int
  f2 : Int
  f3 : Int
def z53 : S53 := ⟨(0 : Int), (0 : Int), (0 : Int), (0 : Int)⟩
def k53 : Kd S53 := Kd.iso (Kd.pair (Kd.int .i64) (Kd.pair (Kd.int .i64) (Kd.pair (Kd.int .i64) (Kd.int .i64)))) (fun x : S53 => (x.f0, x.f1, x.f2, x.f3))
theorem k53_open {w : World} {x : S53} {cs : List Value} (h : k53.K w x cs) : cs = [.int .i64 x.f0, .int .i64 x.f1, .int .i64 x.f2, .int .i64 x.f3] := by
  obtain ⟨_, _, rfl, rfl, ⟨_, _, rfl, rfl, ⟨_, _, rfl, rfl, rfl⟩⟩⟩ := h
  exact rfl
theorem k53_openM {w : World} {base : Nat} {ok : Nat → Prop} {x : S53} {cs : List Value} (h : k53.M w base ok x cs) : cs = [.int .i64 x.f0, .int .i64 x.f1, .int .i64 x.f2, .int .i64 x.f3] := by
  obtain ⟨_, _, rfl, rfl, ⟨_, _, rfl, rfl, ⟨_, _, rfl, rfl, rfl⟩⟩⟩ := h
  exact rfl
theorem k53_mkM (w : World) (base : Nat) (ok : Nat → Prop) (x : S53)  : k53.M w base ok x [.int .i64 x.f0, .int .i64 x.f1, .int .i64 x.f2, .int .i64 x.f3] := ⟨[.int .i64 x.f0], [.int .i64 x.f1, .int .i64 x.f2, .int .i64 x.f3], rfl, rfl, ⟨[.int .i64 x.f1], [.int .i64 x.f2, .int .i64 x.f3], rfl, rfl, ⟨[.int .i64 x.f2], [.int .i64 x.f3], rfl, rfl, rfl⟩⟩⟩
def rd_T53 (xs : List S53) (i : Int) : S53 := xs.getD i.toNat z53
theorem at_T53 {w : World} {A : Option Addr} {n : Nat} {xs : List S53} (h : Kd.C k53 w A n xs) (i : Int) (h0 : 0 ≤ i) (h1 : i < n) : ∃ ad , A = some ad ∧ w.cell? (ad.add (i.toNat * 4)) = some (.int .i64 (rd_T53 xs i).f0) ∧ w.cell? ⟨(ad.add (i.toNat * 4)).block, (ad.add (i.toNat * 4)).off + 1, none⟩ = some (.int .i64 (rd_T53 xs i).f1) ∧ w.cell? ⟨(ad.add (i.toNat * 4)).block, (ad.add (i.toNat * 4)).off + 2, none⟩ = some (.int .i64 (rd_T53 xs i).f2) ∧ w.cell? ⟨(ad.add (i.toNat * 4)).block, (ad.add (i.toNat * 4)).off + 3, none⟩ = some (.int .i64 (rd_T53 xs i).f3) := by
  obtain ⟨ad, c, e, _, hK, hc0⟩ := Kd.C_get h z53 i h0 h1
  have hc : ∀ j u, c[j]? = some u → w.cell? (ad.add (i.toNat * 4 + j)) = some u := hc0
  obtain rfl := k53_open hK
  exact ⟨ad, e, hc 0 _ rfl, by rw [← add_field _ _ 1 (by omega)]; exact hc 1 _ rfl, by rw [← add_field _ _ 2 (by omega)]; exact hc 2 _ rfl, by rw [← add_field _ _ 3 (by omega)]; exact hc 3 _ rfl⟩

/-! #### struct type 85 -/
structure S85 where
  f0 : Int
  f1 : Int

/-! #### struct type 34 -/
structure S34 where
  f0 : Int
  f1 : Int
  f2 : Int
  f3 : Int
  f4 : Int
def z34 : S34 := ⟨(0 : Int), (0 : Int), (0 : Int), (0 : Int), (0 : Int)⟩
def k34 : Kd S34 := Kd.iso (Kd.pair (Kd.int .i64) (Kd.pair (Kd.int .i64) (Kd.pair (Kd.int .i64) (Kd.pair (Kd.int .i64) (Kd.int .i64))))) (fun x : S34 => (x.f0, x.f1, x.f2, x.f3, x.f4))
theorem k34_open {w : World} {x : S34} {cs : List Value} (h : k34.K w x cs) : cs = [.int .i64 x.f0, .int .i64 x.f1, .int .i64 x.f2, .int .i64 x.f3, .int .i64 x.f4] := by
  obtain ⟨_, _, rfl, rfl, ⟨_, _, rfl, rfl, ⟨_, _, rfl, rfl, ⟨_, _, rfl, rfl, rfl⟩⟩⟩⟩ := h
  exact rfl
theorem k34_mkM (w : World) (base : Nat) (ok : Nat → Prop) (x : S34)  : k34.M w base ok x [.int .i64 x.f0, .int .i64 x.f1, .int .i64 x.f2, .int .i64 x.f3, .int .i64 x.f4] := ⟨[.int .i64 x.f0], [.int .i64 x.f1, .int .i64 x.f2, .int .i64 x.f3, .int .i64 x.f4], rfl, rfl, ⟨[.int .i64 x.f1], [.int .i64 x.f2, .int .i64 x.f3, .int .i64 x.f4], rfl, rfl, ⟨[.int .i64 x.f2], [.int .i64 x.f3, .int .i64 x.f4], rfl, rfl, ⟨[.int .i64 x.f3], [.int .i64 x.f4], rfl, rfl, rfl⟩⟩⟩⟩
def rd_T34 (xs : List S34) (i : Int) : S34 := xs.getD i.toNat z34
theorem at_T34 {w : World} {A : Option Addr} {n : Nat} {xs : List S34} (h : Kd.C k34 w A n xs) (i : Int) (h0 : 0 ≤ i) (h1 : i < n) : ∃ ad , A = some ad ∧ w.cell? (ad.add (i.toNat * 5)) = some (.int .i64 (rd_T34 xs i).f0) ∧ w.cell? ⟨(ad.add (i.toNat * 5)).block, (ad.add (i.toNat * 5)).off + 1, none⟩ = some (.int .i64 (rd_T34 xs i).f1) ∧ w.cell? ⟨(ad.add (i.toNat * 5)).block, (ad.add (i.toNat * 5)).off + 2, none⟩ = some (.int .i64 (rd_T34 xs i).f2) ∧ w.cell? ⟨(ad.add (i.toNat * 5)).block, (ad.add (i.toNat * 5)).off + 3, none⟩ = some (.int .i64 (rd_T34 xs i).f3) ∧ w.cell? ⟨(ad.add (i.toNat * 5)).block, (ad.add (i.toNat * 5)).off + 4, none⟩ = some (.int .i64 (rd_T34 xs i).f4) := by
  obtain ⟨ad, c, e, _, hK, hc0⟩ := Kd.C_get h z34 i h0 h1
  have hc : ∀ j u, c[j]? = some u → w.cell? (ad.add (i.toNat * 5 + j)) = some u := hc0
  obtain rfl := k34_open hK
  exact ⟨ad, e, hc 0 _ rfl, by rw [← add_field _ _ 1 (by omega)]; exact hc 1 _ rfl, by rw [← add_field _ _ 2 (by omega)]; exact hc 2 _ rfl, by rw [← add_field _ _ 3 (by omega)]; exact hc 3 _ rfl, by rw [← add_field _ _ 4 (by omega)]; exact hc 4 _ rfl⟩
end
section
/-- A state of type 58 at block g of W; what its slices lead to came in by w0. -/
def IsS58 (w0 W : World) (g : Nat) (f0 : List Int) (f1 : Int) : Prop := ∃ A0 c0, W.heap[g]? = some (.cells #[.slice A0 f0.length c0, .int .i64 f1] 58 (0, 0)) ∧ w0.heap.size ≤ g ∧ Kd.C (Kd.int .u8) w0 A0 f0.length f0
theorem IsS58.grown {w0 W : World} {g : Nat} {f0 : List Int} {f1 : Int} {W1 : World} {row : Option Nat} (h : IsS58 w0 W g f0 f1) (hw : W.grownBy W1 row) (hne : some g ≠ row) : IsS58 w0 W1 g f0 f1 := by
  obtain ⟨A0, c0, hb, hg, hr0⟩ := h
  exact ⟨A0, c0, blk_grown hb hw hne, hg, hr0⟩
theorem IsS58.kept {w0 W : World} {g : Nat} {f0 : List Int} {f1 : Int} {W1 : World} {S : Nat → Prop} (h : IsS58 w0 W g f0 f1) (hk : Kept W W1 S) (hne : ¬ S g) : IsS58 w0 W1 g f0 f1 := by
  obtain ⟨A0, c0, hb, hg, hr0⟩ := h
  exact ⟨A0, c0, blk_kept hb hk hne, hg, hr0⟩
theorem IsS58.below {w0 W : World} {g : Nat} {f0 : List Int} {f1 : Int} {W1 : World} (h : IsS58 w0 W g f0 f1) (hw : Below W.heap.size W W1) : IsS58 w0 W1 g f0 f1 := h.grown (grown_of_below hw none) (by simp)
theorem IsS58.alloc {w0 W : World} {g : Nat} {f0 : List Int} {f1 : Int} (h : IsS58 w0 W g f0 f1) (o : Obj) : IsS58 w0 (W.alloc o) g f0 f1 := h.below (below_alloc (Below.refl _ _) o)
theorem IsS58.drewN {w0 W : World} {g : Nat} {f0 : List Int} {f1 : Int} (h : IsS58 w0 W g f0 f1) (m : Nat) : IsS58 w0 (W.drewN m) g f0 f1 := h
theorem IsS58.drew {w0 W : World} {g : Nat} {f0 : List Int} {f1 : Int} (h : IsS58 w0 W g f0 f1) : IsS58 w0 W.drew g f0 f1 := h
theorem IsS58.at_ {w0 W : World} {g : Nat} {f0 : List Int} {f1 : Int} {w' : World} {m : Nat} (hq : W.drewN m = w') (h : IsS58 w0 W g f0 f1) : IsS58 w0 w' g f0 f1 := by subst hq; exact IsS58.drewN h m
theorem IsS58.apart {w0 W : World} {g : Nat} {f0 : List Int} {f1 : Int} {α : Type} {d : Kd α} {e : Nat} {base : Nat} {ok : Nat → Prop} {v : Value} {xs : List α} (h : IsS58 w0 W g f0 f1) (ho : d.R e W base ok v xs) (ht : ∀ q, q ∈ e :: d.E → q ≠ 58) : d.R e W base (fun k => ok k ∧ k ≠ g) v xs := by
  obtain ⟨A0, c0, hb, hg, hr0⟩ := h
  exact Kd.R_types ho hb ht
theorem IsS58.own_ne {w0 W : World} {g : Nat} {f0 : List Int} {f1 : Int} {α : Type} {d : Kd α} {e : Nat} {base : Nat} {ok : Nat → Prop} {v : Value} {xs : List α} (h : IsS58 w0 W g f0 f1) (ho : d.R e W base ok v xs) (ht : e ≠ 58) : some g ≠ v.ownBlock := by
  obtain ⟨A0, c0, hb, hg, hr0⟩ := h
  exact Kd.R_ne ho hb ht
theorem IsS58.apartQ {w0 W : World} {g : Nat} {f0 : List Int} {f1 : Int} {α : Type} {d : Kd α} {e : Nat} {base : Nat} {ok : Nat → Prop} {v : Value} {xs : List α} (h : IsS58 w0 W g f0 f1) (ho : d.Q e W base ok v xs) (ht : ∀ q, q ∈ e :: d.E → q ≠ 58) : d.Q e W base (fun k => ok k ∧ k ≠ g) v xs := by
  obtain ⟨A0, c0, hb, hg, hr0⟩ := h
  exact Kd.Q_types ho hb ht
theorem IsS58.own_neQ {w0 W : World} {g : Nat} {f0 : List Int} {f1 : Int} {α : Type} {d : Kd α} {e : Nat} {base : Nat} {ok : Nat → Prop} {v : Value} {xs : List α} (h : IsS58 w0 W g f0 f1) (ho : d.Q e W base ok v xs) (ht : e ≠ 58) : some g ≠ v.ownBlock := by
  obtain ⟨A0, c0, hb, hg, hr0⟩ := h
  exact Kd.Q_ne ho hb ht
theorem IsS58.lt {w0 W : World} {g : Nat} {f0 : List Int} {f1 : Int} (h : IsS58 w0 W g f0 f1) : g < W.heap.size := by
  obtain ⟨A0, c0, hb, hg, hr0⟩ := h
  exact blk_lt hb
theorem IsS58.ge {w0 W : World} {g : Nat} {f0 : List Int} {f1 : Int} (h : IsS58 w0 W g f0 f1) : w0.heap.size ≤ g := by
  obtain ⟨A0, c0, hb, hg, hr0⟩ := h
  exact hg
theorem IsS58.ne_blk {w0 W : World} {g : Nat} {f0 : List Int} {f1 : Int} {a : Nat} {cs : Array Value} {t : TypeId} {fr : Nat × Nat} (h : IsS58 w0 W g f0 f1) (hb2 : W.heap[a]? = some (.cells cs t fr)) (ht : t ≠ 58) : g ≠ a := by
  obtain ⟨A0, c0, hb, hg, hr0⟩ := h
  rintro rfl
  rw [hb] at hb2
  injection hb2 with hb2
  injection hb2 with _ ht2
  exact ht ht2.symm
theorem IsS58.far {w0 W : World} {g : Nat} {f0 : List Int} {f1 : Int} {p : Addr} (h : IsS58 w0 W g f0 f1) (hne : g ≠ p.block) (u : Value) : IsS58 w0 (W.setCell p u) g f0 f1 := by
  obtain ⟨A0, c0, hb, hg, hr0⟩ := h
  exact ⟨A0, c0, blk_far hb hne u, hg, hr0⟩
theorem cellS58_0 {W : World} {g : Nat} {A0 : Option Addr} {c0 : Nat} {f0 : List Int} {f1 : Int} (h : W.heap[g]? = some (.cells #[.slice A0 f0.length c0, .int .i64 f1] 58 (0, 0))) : W.cell? ⟨g, 0, none⟩ = some (.slice A0 f0.length c0) := (blk_cell h 0).trans rfl
theorem cellS58_1 {W : World} {g : Nat} {A0 : Option Addr} {c0 : Nat} {f0 : List Int} {f1 : Int} (h : W.heap[g]? = some (.cells #[.slice A0 f0.length c0, .int .i64 f1] 58 (0, 0))) : W.cell? ⟨g, 1, none⟩ = some (.int .i64 f1) := (blk_cell h 1).trans rfl
theorem IsS58.set_1 {w0 W : World} {g : Nat} {f0 : List Int} {f1 : Int} (h : IsS58 w0 W g f0 f1) (x : Int) : IsS58 w0 (W.setCell ⟨g, 1, none⟩ (.int .i64 x)) g f0 x := by
  obtain ⟨A0, c0, hb, hg, hr0⟩ := h
  exact ⟨A0, c0, by simpa using blk_set hb 1 (.int .i64 x), hg, hr0⟩
theorem IsS58.new (w0 W : World) (A0 : Option Addr) (c0 : Nat) (f0 : List Int) (f1 : Int) (hB : Below w0.heap.size w0 W) (hr0 : Kd.C (Kd.int .u8) w0 A0 f0.length f0) : IsS58 w0 (W.alloc (.cells #[.slice A0 f0.length c0, .int .i64 f1] 58)) W.heap.size f0 f1 := ⟨A0, c0, by simpa using heap_alloc_new W _, hB.size, hr0⟩

open Go.Proofs.YtljobjpldbdhoaaW.PrintWords.Aside0 renaming mk → yaa

def spec_l20Open.f (l0 : List Int) : Option (List Int × Int) := if (l0.length : Int) > 2000 then (if 2000 ≤ (l0.length : Int) then (some (l0.take 2000, 0)) else (none)) else (some (l0, 0))
set_option maxHeartbeats 8000000 in
set_option maxRecDepth 100000 in
theorem spec_l20Open.calls (A0 : Option Addr) (c0 : Nat) (l0 : List Int) (r1 : List Int) (r2 : Int) (w0 w : World) (hB : Below w0.heap.size w0 w) (hr0 : Kd.C (Kd.int .u8) w0 A0 l0.length l0) (hc0 : l0.length ≤ c0) (h : spec_l20Open.f l0 = some (r1, r2)) :
  Calls Try.prog 11 #[.slice A0 l0.length c0] w fun e w' => ∃ g_ : Nat, e = .returned (.pointer (some ⟨g_, 0, none⟩)) ∧ IsS58 w0 w' g_ r1 r2 ∧ Below w0.heap.size w0 w' ∧ Below w.heap.size w w' := by
 have hu58 := Try.underlying58; have HR0 := yaa hr0; have HC0 := yaa hc0; clear hr0 hc0; have HBW := yaa (Below.refl w.heap.size w); have HW0 := yaa hB.size; have HB := yaa hB; clear hB; have H : (if (l0.length : Int) > 2000 then (if 2000 ≤ (l0.length : Int) then (some (l0.take 2000, 0)) else (none)) else (some (l0, 0))) = some (r1, r2) := h; clear h
 by_cases c2 : (l0.length : Int) > 2000
 ·
  rw [if_pos c2] at H
  have a7 : decide (2000 < (l0.length : Int)) = true := decide_eq_true c2; have a8 : decide (2000 < l0.length) = true := decide_eq_true (by omega); clear c2
  by_cases c3 : 2000 ≤ (l0.length : Int)
  ·
   rw [if_pos c3] at H
   have b1 := eq_true c3; replace c3 := decide_eq_true c3
   simp only [Option.some.injEq, Prod.mk.injEq] at H
   obtain ⟨rfl, rfl⟩ := H; obtain ⟨i04, hi04, _, a2, _⟩ := info_parts info5; obtain ⟨hcut4, hA4, hC4⟩ := print_take_of (P := Try.prog) (Value.int .u8) 0 22 5 .i64 Try.underlying22 hi04 a2 A0 c0 l0 2000 (by omega) (of_decide_eq_true (by assumption)) HC0.out; have HR101 := yaa (Kd.C_of_reads (h1 := fun _ => rfl) (hA4 _ (Kd.reads_of_C HR0.out))); have HC101 := yaa hC4; clear hA4 hC4 hi04 a2
   go_enter Try.func11, Try.ntmps11
   go_wp2_with (first | ((with_reducible refine gd_ 10 rfl ?_); refine bx_ 10 rfl #[.slice A0 (l0.take 2000).length c0, .int .i64 0] 58 ?_; intro a0 hg w5 hbox hb; replace HB := yaa (below_step (upH HB.out) hb); have a3 := yaa (hbox); have a9 := yaa ((by rw [hg]; exact (below_size (upH HBW.out)) : w.heap.size ≤ a0)); have a4 := yaa ((Nat.le_trans HW0.out (by rw [hg]; exact (below_size (upH HBW.out)) : w.heap.size ≤ a0) : w0.heap.size ≤ a0)); replace HBW := yaa (below_step HBW.out hb); clear hb hbox hg))
   go_ret
   exact ⟨_, rfl, (show IsS58 w0 _ a0 (l0.take 2000) 0 from ⟨_, _, by exact upB a3.out, a4.out, HR101.out⟩), by repeat (with_reducible first | exact HB.out | apply below_alloc | apply pw_below_drewN | apply below_drew1 | refine below_set ?_ (Aside0.out ‹_›)), by repeat (with_reducible first | exact HBW.out | apply below_alloc | apply pw_below_drewN | apply below_drew1 | refine below_set ?_ (Aside0.out ‹_›))⟩
  ·
   rw [if_neg c3] at H
   exact absurd H (by simp)
 ·
  rw [if_neg c2] at H
  have a7 : decide (2000 < (l0.length : Int)) = false := decide_eq_false c2; have a8 : decide (2000 < l0.length) = false := decide_eq_false (by omega); clear c2
  simp only [Option.some.injEq, Prod.mk.injEq] at H
  obtain ⟨rfl, rfl⟩ := H
  go_enter Try.func11, Try.ntmps11
  go_wp2_with (first | ((with_reducible refine gd_ 10 rfl ?_); refine bx_ 10 rfl #[.slice A0 l0.length c0, .int .i64 0] 58 ?_; intro a1 hg w6 hbox hb; replace HB := yaa (below_step (upH HB.out) hb); have a5 := yaa (hbox); have b0 := yaa ((by rw [hg]; exact (below_size (upH HBW.out)) : w.heap.size ≤ a1)); have a6 := yaa ((Nat.le_trans HW0.out (by rw [hg]; exact (below_size (upH HBW.out)) : w.heap.size ≤ a1) : w0.heap.size ≤ a1)); replace HBW := yaa (below_step HBW.out hb); clear hb hbox hg))
  go_ret
  exact ⟨_, rfl, (show IsS58 w0 _ a1 l0 0 from ⟨_, _, by exact upB a5.out, a6.out, HR0.out⟩), by repeat (with_reducible first | exact HB.out | apply below_alloc | apply pw_below_drewN | apply below_drew1 | refine below_set ?_ (Aside0.out ‹_›)), by repeat (with_reducible first | exact HBW.out | apply below_alloc | apply pw_below_drewN | apply below_drew1 | refine below_set ?_ (Aside0.out ‹_›))⟩
end
section
def spec_l20Rd_pick.j0 : Nat → Int → Bool → List Int → Int → Option (Int × Int)
 | 0, _, _, _, _ => none
 | k + 1, x1, x24, x1000, x1001 => if x24 = true then (some (0, x1001)) else (if (wrap64 (x1001 - 1)) < (x1000.length : Int) then (if 0 ≤ (wrap64 (x1001 - 1)) then (if x1 = 0 then (none) else (some (Int.tmod (wrap64 (rd x1000 (wrap64 (x1001 - 1)))) x1, x1001))) else (none)) else (if (x1000.length : Int) = 0 then (none) else (if 0 ≤ (Int.tmod (wrap64 (x1001 - 1)) (x1000.length : Int)) then (if (Int.tmod (wrap64 (x1001 - 1)) (x1000.length : Int)) < (x1000.length : Int) then (if 0 ≤ (Int.tmod (wrap64 ((wrap64 ((wrap64 (x1001 - 1)) * 7)) + 3)) (x1000.length : Int)) then (if (Int.tmod (wrap64 ((wrap64 ((wrap64 (x1001 - 1)) * 7)) + 3)) (x1000.length : Int)) < (x1000.length : Int) then (if x1 = 0 then (none) else (some (Int.tmod (Go.bits .xor .i64 (wrap64 ((wrap64 ((wrap64 ((wrap64 ((wrap64 (rd x1000 (Int.tmod (wrap64 (x1001 - 1)) (x1000.length : Int)))) * 131)) + (wrap64 ((wrap64 (rd x1000 (Int.tmod (wrap64 ((wrap64 ((wrap64 (x1001 - 1)) * 7)) + 3)) (x1000.length : Int)))) * 1117)))) + (wrap64 ((wrap64 (x1001 - 1)) * 29)))) + (wrap64 ((wrap64 (Int.tdiv (wrap64 (x1001 - 1)) (x1000.length : Int))) * 53)))) (wrap64 (Int.tdiv (wrap64 ((wrap64 ((wrap64 ((wrap64 ((wrap64 (rd x1000 (Int.tmod (wrap64 (x1001 - 1)) (x1000.length : Int)))) * 131)) + (wrap64 ((wrap64 (rd x1000 (Int.tmod (wrap64 ((wrap64 ((wrap64 (x1001 - 1)) * 7)) + 3)) (x1000.length : Int)))) * 1117)))) + (wrap64 ((wrap64 (x1001 - 1)) * 29)))) + (wrap64 ((wrap64 (Int.tdiv (wrap64 (x1001 - 1)) (x1000.length : Int))) * 53)))) 64))) x1, x1001))) else (none)) else (none)) else (none)) else (none))))
def spec_l20Rd_pick.f (k : Nat) (s0_0 : List Int) (s0_1 : Int) (a1 : Int) : Option (Int × Int) := if a1 < 1 then (spec_l20Rd_pick.j0 k a1 true s0_0 (wrap64 (s0_1 + 1))) else (spec_l20Rd_pick.j0 k a1 ((s0_0.length : Int) == 0) s0_0 (wrap64 (s0_1 + 1)))
set_option maxHeartbeats 8000000 in
set_option maxRecDepth 100000 in
theorem spec_l20Rd_pick.calls (k : Nat) (g : Nat) (s0_0 : List Int) (s0_1 : Int) (a1 : Int) (r1 : Int) (r2 : Int) (w0 w : World) (hI : IsS58 w0 w g s0_0 s0_1) (hB : Below w0.heap.size w0 w) (h : spec_l20Rd_pick.f k s0_0 s0_1 a1 = some (r1, r2)) :
  Calls Try.prog 14 #[.pointer (some ⟨g, 0, none⟩), .int .i64 a1] w fun e w' => e = .returned (.int .i64 r1) ∧ IsS58 w0 w' g s0_0 r2 ∧ Below w0.heap.size w0 w' ∧ KeepBut w w' g none := by
 have HI0 := Aside0.mk hI; have HK := Aside0.mk (KeepBut.refl w g none); have HL := Aside0.mk hB.size; clear hI; have HW0 := Aside0.mk hB.size; have HB := Aside0.mk hB; clear hB; have H : (if a1 < 1 then (spec_l20Rd_pick.j0 k a1 true s0_0 (wrap64 (s0_1 + 1))) else (spec_l20Rd_pick.j0 k a1 ((s0_0.length : Int) == 0) s0_0 (wrap64 (s0_1 + 1)))) = some (r1, r2) := h; clear h; have HC3 := Aside0.mk H; clear H; obtain ⟨d1, d2, HGz4, hgz4, HSz4_0⟩ := HI0.out; have b0 := cellS58_0 HGz4; have b1 := cellS58_1 HGz4; have b2 := blk_frozen HGz4 1; clear HGz4 hgz4
 go_enter Try.func14, Try.ntmps14
 go_upto_region 2 with (fail)
 repeat (go_quiet (fail); go_upto_region 2 with (fail))
 go_cut [24] (fun v24 wc => ∃ (kq : Nat) (a5 : Bool), v24 = .bool a5 ∧ Aside0 (spec_l20Rd_pick.j0 kq a1 a5 s0_0 (wrap64 (s0_1 + 1)) = some (r1, r2)) ∧ Aside0 (kq ≤ k) ∧ Aside0 (IsS58 w0 wc g s0_0 (wrap64 (s0_1 + 1))) ∧ Aside0 (KeepBut w wc g none) ∧ Aside0 (Below w0.heap.size w0 wc))
 case first =>
  have H := HC3.out; clear HC3
  by_cases c5 : a1 < 1
  ·
   rw [if_pos c5] at H
   have a9 : decide (a1 < 1) = true := decide_eq_true c5; clear c5
   (first | rw [a9] | (simp only [i64_w, i32_w]; rw [a9]) | skip)
   have H' := Aside0.mk H; clear H
   go_wp2
   repeat (go_quiet (fail); try go_wp2)
   go_meet
   case rel => exact ⟨_, (true), (by first | rfl | (simp; done) | (simp [*]; done)), H', ⟨by first | omega | exact Nat.le_refl _⟩, ⟨by repeat (with_reducible first | exact HI0.out | apply IsS58.alloc | apply IsS58.drewN | apply IsS58.drew | apply IsS58.set_1)⟩, ⟨by repeat (with_reducible first | exact HK.out | apply KeepBut.set_ | apply keep_drewN | apply keep_drew | apply keep_alloc)⟩, ⟨by repeat (with_reducible first | exact HB.out | apply below_alloc | apply pw_below_drewN | apply below_drew1 | refine below_set ?_ (IsS58.ge HI0.out))⟩⟩
  ·
   rw [if_neg c5] at H
   have a9 : decide (a1 < 1) = false := decide_eq_false c5; clear c5
   (first | rw [a9] | (simp only [i64_w, i32_w]; rw [a9]) | skip)
   have H' := Aside0.mk H; clear H; obtain ⟨d3, d4, HGz6, hgz6, HSz6_0⟩ := HI0.out; have b3 := cellS58_0 HGz6; have b4 := cellS58_1 HGz6; have b5 := blk_frozen HGz6 1; clear HGz6 hgz6
   go_wp2
   repeat (go_quiet (fail); try go_wp2)
   go_meet
   case rel => exact ⟨_, (((s0_0.length : Int) == 0)), (by first | rfl | (simp; done) | (simp [*]; done)), H', ⟨by first | omega | exact Nat.le_refl _⟩, ⟨by repeat (with_reducible first | exact HI0.out | apply IsS58.alloc | apply IsS58.drewN | apply IsS58.drew | apply IsS58.set_1)⟩, ⟨by repeat (with_reducible first | exact HK.out | apply KeepBut.set_ | apply keep_drewN | apply keep_drew | apply keep_alloc)⟩, ⟨by repeat (with_reducible first | exact HB.out | apply below_alloc | apply pw_below_drewN | apply below_drew1 | refine below_set ?_ (IsS58.ge HI0.out))⟩⟩
 case rest =>
  clear HC3; (try clear c1); (try clear p2); (try clear c5); (try clear a9); (try clear p6); (try clear b0); (try clear b1); (try clear b3); (try clear b4); (try clear b2); (try clear b5); obtain ⟨kq, a5, rfl, HA, HJ2, HI0, HK, HB⟩ := hcut
  cases kq with
  | zero => exact absurd HA.out (by simp [spec_l20Rd_pick.j0])
  | succ kj2 =>
   have H := HA.out; clear HA
   simp only [spec_l20Rd_pick.j0] at H
   by_cases c7 : a5 = true
   ·
    subst c7
    rw [if_pos rfl] at H
    simp only [Option.some.injEq, Prod.mk.injEq] at H
    obtain ⟨rfl, rfl⟩ := H
    go_wp2
    repeat (go_quiet (fail); try go_wp2)
    go_ret
    exact ⟨by first | rfl | (simp [*, errW_none, errW_some] <;> rfl), by repeat (with_reducible first | exact HI0.out | apply IsS58.alloc | apply IsS58.drewN | apply IsS58.drew | apply IsS58.set_1), by repeat (with_reducible first | exact HB.out | apply below_alloc | apply pw_below_drewN | apply below_drew1 | refine below_set ?_ (IsS58.ge HI0.out)), by repeat (with_reducible first | exact HK.out | apply KeepBut.set_ | apply keep_drewN | apply keep_drew | apply keep_alloc)⟩
   ·
    replace c7 := Bool.eq_false_iff.mpr c7
    subst c7
    rw [if_neg (show ¬ (false = true) by decide)] at H
    by_cases c8 : (wrap64 ((wrap64 (s0_1 + 1)) - 1)) < (s0_0.length : Int)
    ·
     rw [if_pos c8] at H
     have b6 : decide ((wrap64 ((wrap64 (s0_1 + 1)) - 1)) < (s0_0.length : Int)) = true := decide_eq_true c8; clear c8; obtain ⟨ji9, hji9⟩ : ∃ j_ : Int, (wrap64 ((wrap64 (s0_1 + 1)) - 1)) = j_ := ⟨_, rfl⟩
     replace H : (if 0 ≤ (ji9) then (if a1 = 0 then (none) else (some (Int.tmod (wrap64 (rd s0_0 (ji9))) a1, (wrap64 (s0_1 + 1))))) else (none)) = some (r1, r2) := by first | (rw [hji9] at H; exact H) | (simp only [hji9] at H ⊢; exact H)
     (try rw [hji9] at b6)
     have hji9w : (IntKind.i64.wrap ((wrap64 (s0_1 + 1)) - 1)) = ji9 := (i64_w _).trans hji9
     by_cases c10 : 0 ≤ (ji9)
     ·
      rw [if_pos c10] at H
      replace c10 := decide_eq_true c10
      by_cases c11 : a1 = 0
      ·
       rw [if_pos c11] at H
       exact absurd H (by simp)
      ·
       rw [if_neg c11] at H
       have d8 := beq_eq_false_iff_ne.mpr c11; have d9 := bne_iff_ne.mpr c11
       simp only [Option.some.injEq, Prod.mk.injEq] at H
       obtain ⟨rfl, rfl⟩ := H; obtain ⟨b7, b8, HGz12, hgz12, HSz12_0⟩ := HI0.out; have b9 := cellS58_0 HGz12; have c0 := cellS58_1 HGz12; have c2 := blk_frozen HGz12 1; clear HGz12 hgz12; have p101 : 0 ≤ ((ji9) : Int) := of_decide_eq_true (by assumption); have q101 : (ji9) < (s0_0.length : Int) := of_decide_eq_true (by assumption); obtain ⟨ad101, d5, a6⟩ := Kd.at_int HSz12_0 (ji9) p101 q101
       cases d5
       replace a6 := pw_cell_below HB.out a6; replace p101 := eq_true p101; replace q101 := eq_true q101
       go_wp2
       repeat (go_quiet (fail); try go_wp2)
       go_ret
       exact ⟨by first | rfl | (simp [errW_none, errW_some] <;> rfl) | (simp only [← hji9]; first | rfl | (simp [errW_none, errW_some] <;> rfl)) | (simp [*, errW_none, errW_some] <;> rfl), by repeat (with_reducible first | exact HI0.out | apply IsS58.alloc | apply IsS58.drewN | apply IsS58.drew | apply IsS58.set_1), by repeat (with_reducible first | exact HB.out | apply below_alloc | apply pw_below_drewN | apply below_drew1 | refine below_set ?_ (IsS58.ge HI0.out)), by repeat (with_reducible first | exact HK.out | apply KeepBut.set_ | apply keep_drewN | apply keep_drew | apply keep_alloc)⟩
     ·
      rw [if_neg c10] at H
      exact absurd H (by simp)
    ·
     rw [if_neg c8] at H
     have b6 : decide ((wrap64 ((wrap64 (s0_1 + 1)) - 1)) < (s0_0.length : Int)) = false := decide_eq_false c8; clear c8
     by_cases c13 : (s0_0.length : Int) = 0
     ·
      rw [if_pos c13] at H
      exact absurd H (by simp)
     ·
      rw [if_neg c13] at H
      have e0 := beq_eq_false_iff_ne.mpr c13; have e1 := bne_iff_ne.mpr c13; have e2 : ¬ (s0_0 = []) := fun h_ => c13 (by rw [h_]; rfl); obtain ⟨ji14, hji14⟩ : ∃ j_ : Int, (Int.tmod (wrap64 ((wrap64 (s0_1 + 1)) - 1)) (s0_0.length : Int)) = j_ := ⟨_, rfl⟩
      replace H : (if 0 ≤ (ji14) then (if (ji14) < (s0_0.length : Int) then (if 0 ≤ (Int.tmod (wrap64 ((wrap64 ((wrap64 ((wrap64 (s0_1 + 1)) - 1)) * 7)) + 3)) (s0_0.length : Int)) then (if (Int.tmod (wrap64 ((wrap64 ((wrap64 ((wrap64 (s0_1 + 1)) - 1)) * 7)) + 3)) (s0_0.length : Int)) < (s0_0.length : Int) then (if a1 = 0 then (none) else (some (Int.tmod (Go.bits .xor .i64 (wrap64 ((wrap64 ((wrap64 ((wrap64 ((wrap64 (rd s0_0 (ji14))) * 131)) + (wrap64 ((wrap64 (rd s0_0 (Int.tmod (wrap64 ((wrap64 ((wrap64 ((wrap64 (s0_1 + 1)) - 1)) * 7)) + 3)) (s0_0.length : Int)))) * 1117)))) + (wrap64 ((wrap64 ((wrap64 (s0_1 + 1)) - 1)) * 29)))) + (wrap64 ((wrap64 (Int.tdiv (wrap64 ((wrap64 (s0_1 + 1)) - 1)) (s0_0.length : Int))) * 53)))) (wrap64 (Int.tdiv (wrap64 ((wrap64 ((wrap64 ((wrap64 ((wrap64 (rd s0_0 (ji14))) * 131)) + (wrap64 ((wrap64 (rd s0_0 (Int.tmod (wrap64 ((wrap64 ((wrap64 ((wrap64 (s0_1 + 1)) - 1)) * 7)) + 3)) (s0_0.length : Int)))) * 1117)))) + (wrap64 ((wrap64 ((wrap64 (s0_1 + 1)) - 1)) * 29)))) + (wrap64 ((wrap64 (Int.tdiv (wrap64 ((wrap64 (s0_1 + 1)) - 1)) (s0_0.length : Int))) * 53)))) 64))) a1, (wrap64 (s0_1 + 1))))) else (none)) else (none)) else (none)) else (none)) = some (r1, r2) := by first | (rw [hji14] at H; exact H) | (simp only [hji14] at H ⊢; exact H)
      by_cases c15 : 0 ≤ (ji14)
      ·
       rw [if_pos c15] at H
       replace c15 := decide_eq_true c15
       by_cases c16 : (ji14) < (s0_0.length : Int)
       ·
        rw [if_pos c16] at H
        replace c16 := decide_eq_true c16; obtain ⟨ji17, hji17⟩ : ∃ j_ : Int, (Int.tmod (wrap64 ((wrap64 ((wrap64 ((wrap64 (s0_1 + 1)) - 1)) * 7)) + 3)) (s0_0.length : Int)) = j_ := ⟨_, rfl⟩
        replace H : (if 0 ≤ (ji17) then (if (ji17) < (s0_0.length : Int) then (if a1 = 0 then (none) else (some (Int.tmod (Go.bits .xor .i64 (wrap64 ((wrap64 ((wrap64 ((wrap64 ((wrap64 (rd s0_0 (ji14))) * 131)) + (wrap64 ((wrap64 (rd s0_0 (ji17))) * 1117)))) + (wrap64 ((wrap64 ((wrap64 (s0_1 + 1)) - 1)) * 29)))) + (wrap64 ((wrap64 (Int.tdiv (wrap64 ((wrap64 (s0_1 + 1)) - 1)) (s0_0.length : Int))) * 53)))) (wrap64 (Int.tdiv (wrap64 ((wrap64 ((wrap64 ((wrap64 ((wrap64 (rd s0_0 (ji14))) * 131)) + (wrap64 ((wrap64 (rd s0_0 (ji17))) * 1117)))) + (wrap64 ((wrap64 ((wrap64 (s0_1 + 1)) - 1)) * 29)))) + (wrap64 ((wrap64 (Int.tdiv (wrap64 ((wrap64 (s0_1 + 1)) - 1)) (s0_0.length : Int))) * 53)))) 64))) a1, (wrap64 (s0_1 + 1))))) else (none)) else (none)) = some (r1, r2) := by first | (rw [hji17] at H; exact H) | (simp only [hji17] at H ⊢; exact H)
        by_cases c18 : 0 ≤ (ji17)
        ·
         rw [if_pos c18] at H
         replace c18 := decide_eq_true c18
         by_cases c19 : (ji17) < (s0_0.length : Int)
         ·
          rw [if_pos c19] at H
          replace c19 := decide_eq_true c19
          by_cases c20 : a1 = 0
          ·
           rw [if_pos c20] at H
           exact absurd H (by simp)
          ·
           rw [if_neg c20] at H
           have e3 := beq_eq_false_iff_ne.mpr c20; have e4 := bne_iff_ne.mpr c20
           simp only [Option.some.injEq, Prod.mk.injEq] at H
           obtain ⟨rfl, rfl⟩ := H; obtain ⟨c3, c4, HGz21, hgz21, HSz21_0⟩ := HI0.out; have c6 := cellS58_0 HGz21; have c9 := cellS58_1 HGz21; have d0 := blk_frozen HGz21 1; clear HGz21 hgz21; have p102 : 0 ≤ ((ji14) : Int) := of_decide_eq_true (by assumption); have q102 : (ji14) < (s0_0.length : Int) := of_decide_eq_true (by assumption); obtain ⟨ad102, d6, a7⟩ := Kd.at_int HSz21_0 (ji14) p102 q102
           cases d6
           replace a7 := pw_cell_below HB.out a7; replace p102 := eq_true p102; replace q102 := eq_true q102; have p103 : 0 ≤ ((ji17) : Int) := of_decide_eq_true (by assumption); have q103 : (ji17) < (s0_0.length : Int) := of_decide_eq_true (by assumption); obtain ⟨ad103, d7, a8⟩ := Kd.at_int HSz21_0 (ji17) p103 q103; obtain rfl : ad102 = ad103 := (by injection d7); replace a8 := pw_cell_below HB.out a8; replace p103 := eq_true p103; replace q103 := eq_true q103
           go_wp2
           repeat (go_quiet (fail); try go_wp2)
           go_ret
           exact ⟨by first | rfl | (simp [errW_none, errW_some] <;> rfl) | (simp only [← hji14, ← hji17]; first | rfl | (simp [errW_none, errW_some] <;> rfl)) | (simp [*, errW_none, errW_some] <;> rfl), by repeat (with_reducible first | exact HI0.out | apply IsS58.alloc | apply IsS58.drewN | apply IsS58.drew | apply IsS58.set_1), by repeat (with_reducible first | exact HB.out | apply below_alloc | apply pw_below_drewN | apply below_drew1 | refine below_set ?_ (IsS58.ge HI0.out)), by repeat (with_reducible first | exact HK.out | apply KeepBut.set_ | apply keep_drewN | apply keep_drew | apply keep_alloc)⟩
         ·
          rw [if_neg c19] at H
          exact absurd H (by simp)
        ·
         rw [if_neg c18] at H
         exact absurd H (by simp)
       ·
        rw [if_neg c16] at H
        exact absurd H (by simp)
      ·
       rw [if_neg c15] at H
       exact absurd H (by simp)
end
section
def spec_l20Kind.f (k : Nat) (s0_0 : List Int) (s0_1 : Int) : Option (Int × Int) := (some (([68, 85, 82, 80] : List Int) : List Int)).bind fun y101 => ((spec_l20Rd_pick.f k s0_0 s0_1 4).bind fun bt104 => (if 0 ≤ bt104.1 then (if bt104.1 < (y101.length : Int) then (some (rd y101 bt104.1, bt104.2)) else (none)) else (none)))
set_option maxHeartbeats 8000000 in
set_option maxRecDepth 100000 in
theorem spec_l20Kind.calls (k : Nat) (g : Nat) (s0_0 : List Int) (s0_1 : Int) (r1 : Int) (r2 : Int) (w0 w : World) (hI : IsS58 w0 w g s0_0 s0_1) (hB : Below w0.heap.size w0 w) (h : spec_l20Kind.f k s0_0 s0_1 = some (r1, r2)) :
  Calls Try.prog 12 #[.pointer (some ⟨g, 0, none⟩)] w fun e w' => e = .returned (.int .u8 r1) ∧ IsS58 w0 w' g s0_0 r2 ∧ Below w0.heap.size w0 w' ∧ KeepBut w w' g none := by
 have HI0 := Aside0.mk hI; have HK := Aside0.mk (KeepBut.refl w g none); have HL := Aside0.mk hB.size; clear hI; have HW0 := Aside0.mk hB.size; have HB := Aside0.mk hB; clear hB; have H : ((some (([68, 85, 82, 80] : List Int) : List Int)).bind fun y101 => ((spec_l20Rd_pick.f k s0_0 s0_1 4).bind fun a2 => (if 0 ≤ a2.1 then (if a2.1 < (y101.length : Int) then (some (rd y101 a2.1, a2.2)) else (none)) else (none)))) = some (r1, r2) := h; clear h; obtain ⟨y101, hy101, H⟩ := bindY H; (try dsimp only at H); have Ny101 := Aside0.mk hy101; clear hy101; obtain ⟨⟨a4, a6⟩, A2, H⟩ := bindA H; (try dsimp only at H)
 by_cases c3 : 0 ≤ a4
 ·
  rw [if_pos c3] at H
  replace c3 := decide_eq_true c3
  by_cases c4 : a4 < (y101.length : Int)
  ·
   rw [if_pos c4] at H
   replace c4 := decide_eq_true c4
   simp only [Option.some.injEq, Prod.mk.injEq] at H
   obtain ⟨rfl, rfl⟩ := H
   go_enter Try.func12, Try.ntmps12
   go_wp2_with (first | ((with_reducible refine gd_ 3 rfl ?_); refine Kd.R_lit (Kd.int .u8) _ 5 ?hg (N := 3) ?hd (xs := ([68, 85, 82, 80] : List Int)) (inner := [.int .u8 68, .int .u8 85, .int .u8 82, .int .u8 80]) (ok := fun _ => True) (okp := fun _ => True) ?hr ?hp (fun _ hk => hk) trivial (Below.refl _ _) (Nat.le_refl _) (by simp) ?_; (case hd => rfl); (case hg => rfl); (case hr => first | (go_simp; done) | (go_simp; rfl)); (case hp => exact (Reps.one (show Kd.M (Kd.int .u8) _ _ _ 68 [.int .u8 68] from rfl) (Reps.one (show Kd.M (Kd.int .u8) _ _ _ 85 [.int .u8 85] from rfl) (Reps.one (show Kd.M (Kd.int .u8) _ _ _ 82 [.int .u8 82] from rfl) (Reps.one (show Kd.M (Kd.int .u8) _ _ _ 80 [.int .u8 80] from rfl) (Reps.none _ _)))))); intro a8 w5 ho6 hb hg_ hnew_; clear hg_ hnew_; (first | rw [← Ny101.out] at ho6 | (simp only [Int.reduceToNat] at ho6; rw [← Ny101.out] at ho6)); have a3 := Aside0.mk (Kd.R_lower ho6 (keep_size (w := w) (g := g) (row := none) (by repeat (with_reducible first | exact HK.out | apply KeepBut.set_ | apply keep_drewN | apply keep_drew | apply keep_alloc)))); replace HK := Aside0.mk (KeepBut.trans (by repeat (with_reducible first | exact HK.out | apply KeepBut.set_ | apply keep_drewN | apply keep_drew | apply keep_alloc)) (KeepBut.of_below hb g none) (.inl rfl)); replace HB := Aside0.mk (below_step (by repeat (with_reducible first | exact HB.out | apply below_alloc | apply pw_below_drewN | apply below_drew1 | refine below_set ?_ (IsS58.ge HI0.out))) hb); replace HI0 := Aside0.mk (IsS58.below (by repeat (with_reducible first | exact HI0.out | apply IsS58.alloc | apply IsS58.drewN | apply IsS58.drew | apply IsS58.set_1)) hb); clear hb ho6) | ((with_reducible refine gc_ 14 rfl ?_); refine gl_ (some 5) rfl Try.func14 #[.pointer (some ⟨g, 0, none⟩), .int .i64 4] ?_; (with_reducible refine (spec_l20Rd_pick.calls k g s0_0 s0_1 4 a4 a6 w0 _ ?side1 ?side2 A2.out).mono ?_); (case side1 => repeat (with_reducible first | exact HI0.out | apply IsS58.alloc | apply IsS58.drewN | apply IsS58.drew | apply IsS58.set_1)); (case side2 => repeat (with_reducible first | exact HB.out | apply below_alloc | apply pw_below_drewN | apply below_drew1 | refine below_set ?_ (IsS58.ge HI0.out))); rintro e w7 ⟨rfl, hi, hb, hk⟩; refine ⟨_, rfl, ?_⟩; replace a3 := Aside0.mk (Kd.R_mono (Kd.R_keep (IsS58.apart (show IsS58 w0 _ g s0_0 s0_1 from by repeat (with_reducible first | exact HI0.out | apply IsS58.alloc | apply IsS58.drewN | apply IsS58.drew | apply IsS58.set_1)) (upR a3.out) (by decide)) hk (fun _ h => h.2)) (fun _ h => h.1)); replace HK := Aside0.mk (KeepBut.trans (by repeat (with_reducible first | exact HK.out | apply KeepBut.set_ | apply keep_drewN | apply keep_drew | apply keep_alloc)) hk (.inl rfl)); replace HB := Aside0.mk (hb); replace HI0 := Aside0.mk (hi); (try clear hb hk hi); obtain ⟨Ao8, co8, eo8⟩ := Kd.R_slice a3.out; subst eo8; have p106 : 0 ≤ (a4 : Int) := of_decide_eq_true (by assumption); have q106 : a4 < (y101.length : Int) := of_decide_eq_true (by assumption); obtain ⟨ad106, a7, a5⟩ := Kd.at_int (Kd.R_reads' a3.out).2.2 a4 p106 q106; cases a7; replace p106 := eq_true p106; replace q106 := eq_true q106))
   go_ret
   exact ⟨by first | rfl | (simp [*, errW_none, errW_some] <;> rfl), by repeat (with_reducible first | exact HI0.out | apply IsS58.alloc | apply IsS58.drewN | apply IsS58.drew | apply IsS58.set_1), by repeat (with_reducible first | exact HB.out | apply below_alloc | apply pw_below_drewN | apply below_drew1 | refine below_set ?_ (IsS58.ge HI0.out)), by repeat (with_reducible first | exact HK.out | apply KeepBut.set_ | apply keep_drewN | apply keep_drew | apply keep_alloc)⟩
  ·
   rw [if_neg c4] at H
   exact absurd H (by simp)
 ·
  rw [if_neg c3] at H
  exact absurd H (by simp)
end
section
def spec_l20Rd_odd.f (k : Nat) (s0_0 : List Int) (s0_1 : Int) (a1 : Int) : Option (Bool × Int) := if a1 > 0 then ((spec_l20Rd_pick.f k s0_0 s0_1 a1).bind fun bt101 => (some ((bt101.1 == (wrap64 (a1 - 1))), bt101.2))) else (some (false, s0_1))
set_option maxHeartbeats 8000000 in
set_option maxRecDepth 100000 in
theorem spec_l20Rd_odd.calls (k : Nat) (g : Nat) (s0_0 : List Int) (s0_1 : Int) (a1 : Int) (r1 : Bool) (r2 : Int) (w0 w : World) (hI : IsS58 w0 w g s0_0 s0_1) (hB : Below w0.heap.size w0 w) (h : spec_l20Rd_odd.f k s0_0 s0_1 a1 = some (r1, r2)) :
    Calls Try.prog 13 #[.pointer (some ⟨g, 0, none⟩), .int .i64 a1] w fun e w' => e = .returned (.bool r1) ∧ IsS58 w0 w' g s0_0 r2 ∧ Below w0.heap.size w0 w' ∧ KeepBut w w' g none := by
  have HI0 := Aside0.mk hI; have HK := Aside0.mk (KeepBut.refl w g none); have HL := Aside0.mk hB.size; clear hI; have HW0 := Aside0.mk hB.size; have HB := Aside0.mk hB; clear hB; have H : (if a1 > 0 then ((spec_l20Rd_pick.f k s0_0 s0_1 a1).bind fun bt101 => (some ((bt101.1 == (wrap64 (a1 - 1))), bt101.2))) else (some (false, s0_1))) = some (r1, r2) := h; clear h
  by_cases c3 : a1 > 0
  · rw [if_pos c3] at H
    have c3b0 : decide (0 < a1) = true := decide_eq_true c3; clear c3; obtain ⟨⟨t101, t102⟩, A4, H⟩ := bindA H; (try dsimp only at H)
    simp only [Option.some.injEq, Prod.mk.injEq] at H
    obtain ⟨rfl, rfl⟩ := H
    go_enter Try.func13, Try.ntmps13
    go_wp2_with (first | (go_at_call 14; (with_reducible refine (spec_l20Rd_pick.calls k g s0_0 s0_1 a1 t101 t102 w0 _ ?side1 ?side2 A4.out).mono ?_); (case side1 => repeat (with_reducible first | exact HI0.out | apply IsS58.alloc | apply IsS58.drewN | apply IsS58.drew | apply IsS58.set_1)); (case side2 => repeat (with_reducible first | exact HB.out | apply below_alloc | apply pw_below_drewN | apply below_drew1 | refine below_set ?_ (IsS58.ge HI0.out))); rintro e w5 ⟨rfl, hi, hb, hk⟩; replace HK := Aside0.mk (KeepBut.trans (by repeat (with_reducible first | exact HK.out | apply KeepBut.set_ | apply keep_drewN | apply keep_drew | apply keep_alloc)) hk (.inl rfl)); replace HB := Aside0.mk (hb); replace HI0 := Aside0.mk (hi); (try clear hb hk hi)))
    go_ret
    exact ⟨by first | rfl | (simp [*, errW_none, errW_some] <;> rfl), by repeat (with_reducible first | exact HI0.out | apply IsS58.alloc | apply IsS58.drewN | apply IsS58.drew | apply IsS58.set_1), by repeat (with_reducible first | exact HB.out | apply below_alloc | apply pw_below_drewN | apply below_drew1 | refine below_set ?_ (IsS58.ge HI0.out)), by repeat (with_reducible first | exact HK.out | apply KeepBut.set_ | apply keep_drewN | apply keep_drew | apply keep_alloc)⟩
  · rw [if_neg c3] at H
    have c3b0 : decide (0 < a1) = false := decide_eq_false c3; clear c3
    simp only [Option.some.injEq, Prod.mk.injEq] at H
    obtain ⟨rfl, rfl⟩ := H
    go_enter Try.func13, Try.ntmps13
    go_wp2
    go_ret
    exact ⟨by first | rfl | (simp [*, errW_none, errW_some] <;> rfl), by repeat (with_reducible first | exact HI0.out | apply IsS58.alloc | apply IsS58.drewN | apply IsS58.drew | apply IsS58.set_1), by repeat (with_reducible first | exact HB.out | apply below_alloc | apply pw_below_drewN | apply below_drew1 | refine below_set ?_ (IsS58.ge HI0.out)), by repeat (with_reducible first | exact HK.out | apply KeepBut.set_ | apply keep_drewN | apply keep_drew | apply keep_alloc)⟩
end
section
open Go.Proofs.YtljobjpldbdhoaaW.PrintWords.Aside0 renaming mk → yaa
open Go.Proofs.Ytljobjpldbdhoaa.X.IsS58 renaming alloc → yab, drewN → yac, set_1 → yad, drew → yag
open Go.Proofs.YtljobjpldbdhoaaW.PrintWords.KeepBut renaming set_ → yae
open Go.Proofs.YtljobjpldbdhoaaW.PrintWords renaming pw_below_drewN → yaf

def spec_l20Bytes.l0 : Nat → List Int → Int → List Int → Int → Option (List Int × Int)
 | 0, _, _, _, _ => none
 | k + 1, x5, x6, x1000, x1001 => if x6 > 0 then ((spec_l20Rd_pick.f k x1000 x1001 256).bind fun bt106 => ((spec_l20Rd_pick.f k x1000 bt106.2 4).bind fun bt108 => ((some (([bt106.1, bt108.1, 255] : List Int) : List Int)).bind fun y110 => ((spec_l20Rd_pick.f k x1000 bt108.2 3).bind fun bt113 => (if 0 ≤ bt113.1 then (if bt113.1 < (y110.length : Int) then (if x5.length < 140737488355328 then (spec_l20Bytes.l0 k (x5 ++ [(rd y110 bt113.1) % 256]) (wrap64 (x6 - 1)) x1000 bt113.2) else (none)) else (none)) else (none)))))) else (some (x5, x1001))
def spec_l20Bytes.f (k : Nat) (s0_0 : List Int) (s0_1 : Int) (a1 : Int) : Option (List Int × Int) := (spec_l20Rd_pick.f k s0_0 s0_1 (wrap64 (a1 + 1))).bind fun bt104 => (spec_l20Bytes.l0 k (([] : List Int)) bt104.1 s0_0 bt104.2)
set_option maxHeartbeats 8000000 in
set_option maxRecDepth 100000 in
theorem spec_l20Bytes.calls (k : Nat) (g : Nat) (s0_0 : List Int) (s0_1 : Int) (a1 : Int) (r1 : List Int) (r2 : Int) (w0 w : World) (hI : IsS58 w0 w g s0_0 s0_1) (hB : Below w0.heap.size w0 w) (h : spec_l20Bytes.f k s0_0 s0_1 a1 = some (r1, r2)) :
  Calls Try.prog 15 #[.pointer (some ⟨g, 0, none⟩), .int .i64 a1] w fun e w' => ∃ v0_ : Value, e = .returned (v0_) ∧ Kd.R (Kd.int .u8) 5 w' w.heap.size (fun _ => True) v0_ r1 ∧ IsS58 w0 w' g s0_0 r2 ∧ Below w0.heap.size w0 w' ∧ KeepBut w w' g none := by
 have HI0 := yaa hI; have HK := yaa (KeepBut.refl w g none); have HL := yaa hB.size; clear hI; have HW0 := yaa hB.size; have HB := yaa hB; clear hB; have H : ((spec_l20Rd_pick.f k s0_0 s0_1 (wrap64 (a1 + 1))).bind fun a7 => (spec_l20Bytes.l0 k (([] : List Int)) a7.1 s0_0 a7.2)) = some (r1, r2) := h; clear h; obtain ⟨y101, hy101⟩ : ∃ y_ : List Int, y_ = (([] : List Int)) := ⟨_, rfl⟩
 replace H : ((spec_l20Rd_pick.f k s0_0 s0_1 (wrap64 (a1 + 1))).bind fun a7 => (spec_l20Bytes.l0 k y101 a7.1 s0_0 a7.2)) = some (r1, r2) := by first | (rw [hy101]; with_reducible exact H) | (have H2_ := (Option.bind_some _ _).symm.trans H; rw [hy101]; with_reducible exact H2_) | (have H2_ := (Option.bind_some _ _).symm.trans H; with_reducible exact H2_) | with_reducible exact H | (rw [hy101]; exact H) | exact H
 have Ny101 := yaa hy101; clear hy101; obtain ⟨⟨b8, b9⟩, A3, H⟩ := bindA H; (try dsimp only at H); have H' := yaa H; clear H
 go_enter Try.func15, Try.ntmps15
 go_wp2_with (first | ((with_reducible refine gd_ 7 rfl ?_); refine Kd.R_lit (Kd.int .u8) _ 5 ?hg (N := 7) ?hd (xs := ([] : List Int)) (inner := []) (ok := fun _ => True) (okp := fun _ => True) ?hr ?hp (fun _ hk => hk) trivial (Below.refl _ _) (Nat.le_refl _) (by simp) ?_; (case hd => rfl); (case hg => rfl); (case hr => first | (go_simp; done) | (go_simp; rfl)); (case hp => exact (Reps.none _ _)); intro c5 w4 ho5 hb hg_ hnew_; clear hg_ hnew_; (first | rw [← Ny101.out] at ho5 | (simp only [Int.reduceToNat] at ho5; rw [← Ny101.out] at ho5)); have a9 := yaa (Kd.R_lower ho5 (keep_size (w := w) (g := g) (row := none) (by repeat (with_reducible first | exact HK.out | apply yae | apply keep_drewN | apply keep_drew | apply keep_alloc)))); replace HK := yaa (KeepBut.trans (by repeat (with_reducible first | exact HK.out | apply yae | apply keep_drewN | apply keep_drew | apply keep_alloc)) (KeepBut.of_below hb g none) (.inl rfl)); replace HB := yaa (below_step (by repeat (with_reducible first | exact HB.out | apply below_alloc | apply yaf | apply below_drew1 | refine below_set ?_ (IsS58.ge HI0.out))) hb); replace HI0 := yaa (IsS58.below (by repeat (with_reducible first | exact HI0.out | apply yab | apply yac | apply yag | apply yad)) hb); clear hb ho5) | ((with_reducible refine gc_ 14 rfl ?_); refine gl_ (some 11) rfl Try.func14 #[.pointer (some ⟨g, 0, none⟩), .int .i64 (wrap64 (a1 + 1))] ?_; (with_reducible refine (spec_l20Rd_pick.calls k g s0_0 s0_1 (wrap64 (a1 + 1)) b8 b9 w0 _ ?side1 ?side2 A3.out).mono ?_); (case side1 => repeat (with_reducible first | exact HI0.out | apply yab | apply yac | apply yag | apply yad)); (case side2 => repeat (with_reducible first | exact HB.out | apply below_alloc | apply yaf | apply below_drew1 | refine below_set ?_ (IsS58.ge HI0.out))); rintro e w6 ⟨rfl, hi, hb, hk⟩; refine ⟨_, rfl, ?_⟩; replace a9 := yaa (Kd.R_mono (Kd.R_keep (IsS58.apart (show IsS58 w0 _ g s0_0 s0_1 from by repeat (with_reducible first | exact HI0.out | apply yab | apply yac | apply yag | apply yad)) (upR a9.out) (by decide)) hk (fun _ h => h.2)) (fun _ h => h.1)); replace HK := yaa (KeepBut.trans (by repeat (with_reducible first | exact HK.out | apply yae | apply keep_drewN | apply keep_drew | apply keep_alloc)) hk (.inl rfl)); replace HB := yaa (hb); replace HI0 := yaa (hi); (try clear hb hk hi)))
 (try simp only [Act.put, List.setIfInBounds_toArray, List.set_cons_zero, List.set_cons_succ])
 go_loopg [5, 6] k (fun kq v5 v6 w' => ∃ (b0 : List Int) (a8 : Int) (a4 : Int), v6 = .int .i64 a8 ∧ Aside0 (spec_l20Bytes.l0 kq b0 a8 s0_0 a4 = some (r1, r2)) ∧ Aside0 (kq ≤ k) ∧ Aside0 (Kd.R (Kd.int .u8) 5 w' w.heap.size (fun _ => True) v5 b0) ∧ Aside0 (IsS58 w0 w' g s0_0 a4) ∧ Aside0 (KeepBut w w' g none) ∧ Aside0 (Below w0.heap.size w0 w'))
 case atStart => exact ⟨(y101), (b8), (b9), (by first | rfl | (simp; done) | (simp [*]; done)), H', ⟨Nat.le_refl _⟩, ⟨by first | exact a9.out | exact upR a9.out⟩, ⟨by repeat (with_reducible first | exact HI0.out | apply yab | apply yac | apply yag | apply yad)⟩, ⟨by repeat (with_reducible first | exact HK.out | apply yae | apply keep_drewN | apply keep_drew | apply keep_alloc)⟩, ⟨by repeat (with_reducible first | exact HB.out | apply below_alloc | apply yaf | apply below_drew1 | refine below_set ?_ (IsS58.ge HI0.out))⟩⟩
 case round =>
  clear H'; (try clear c1); (try clear p2); (try clear p6); obtain ⟨b0, a8, a4, rfl, HA, HK1, a3, HI0, HK, HB⟩ := hrel
  cases gk with
  | zero => exact absurd HA.out (by simp [spec_l20Bytes.l0])
  | succ k1 =>
   have H := HA.out; clear HA
   simp only [spec_l20Bytes.l0] at H
   by_cases c7 : a8 > 0
   ·
    rw [if_pos c7] at H
    have c2 : decide (0 < a8) = true := decide_eq_true c7; clear c7; obtain ⟨⟨b1, b6⟩, A8, H⟩ := bindA H; (try dsimp only at H); obtain ⟨⟨b2, b4⟩, A9, H⟩ := bindA H; (try dsimp only at H); obtain ⟨y110, hy110, H⟩ := bindY H; (try dsimp only at H); have Ny110 := yaa hy110; clear hy110; obtain ⟨⟨a6, b7⟩, A10, H⟩ := bindA H; (try dsimp only at H)
    by_cases c11 : 0 ≤ a6
    ·
     rw [if_pos c11] at H
     replace c11 := decide_eq_true c11
     by_cases c12 : a6 < (y110.length : Int)
     ·
      rw [if_pos c12] at H
      replace c12 := decide_eq_true c12
      by_cases c13 : b0.length < 140737488355328
      ·
       rw [if_pos c13] at H
       have LMc13 := yaa c13; clear c13; obtain ⟨y116, hy116⟩ : ∃ y_ : List Int, y_ = (b0 ++ [(rd y110 a6) % 256]) := ⟨_, rfl⟩
       replace H : (spec_l20Bytes.l0 k1 y116 (wrap64 (a8 - 1)) s0_0 b7) = some (r1, r2) := by first | (rw [hy116]; with_reducible exact H) | (have H2_ := (Option.bind_some _ _).symm.trans H; rw [hy116]; with_reducible exact H2_) | (have H2_ := (Option.bind_some _ _).symm.trans H; with_reducible exact H2_) | with_reducible exact H | (rw [hy116]; exact H) | exact H
       have Ny116 := yaa hy116; clear hy116; have H' := yaa H; clear H
       go_wp2_with (first | ((with_reducible refine gc_ 14 rfl ?_); refine gl_ (some 18) rfl Try.func14 #[.pointer (some ⟨g, 0, none⟩), .int .i64 256] ?_; (with_reducible refine (spec_l20Rd_pick.calls k1 g s0_0 a4 256 b1 b6 w0 _ ?side1 ?side2 A8.out).mono ?_); (case side1 => repeat (with_reducible first | exact HI0.out | apply yab | apply yac | apply yag | apply yad)); (case side2 => repeat (with_reducible first | exact HB.out | apply below_alloc | apply yaf | apply below_drew1 | refine below_set ?_ (IsS58.ge HI0.out))); rintro e w14 ⟨rfl, hi, hb, hk⟩; refine ⟨_, rfl, ?_⟩; replace a3 := yaa (Kd.R_mono (Kd.R_keep (IsS58.apart (show IsS58 w0 _ g s0_0 a4 from by repeat (with_reducible first | exact HI0.out | apply yab | apply yac | apply yag | apply yad)) (upR a3.out) (by decide)) hk (fun _ h => h.2)) (fun _ h => h.1)); replace HK := yaa (KeepBut.trans (by repeat (with_reducible first | exact HK.out | apply yae | apply keep_drewN | apply keep_drew | apply keep_alloc)) hk (.inl rfl)); replace HB := yaa (hb); replace HI0 := yaa (hi); (try clear hb hk hi)) | ((with_reducible refine gc_ 14 rfl ?_); refine gl_ (some 20) rfl Try.func14 #[.pointer (some ⟨g, 0, none⟩), .int .i64 4] ?_; (with_reducible refine (spec_l20Rd_pick.calls k1 g s0_0 b6 4 b2 b4 w0 _ ?side1 ?side2 A9.out).mono ?_); (case side1 => repeat (with_reducible first | exact HI0.out | apply yab | apply yac | apply yag | apply yad)); (case side2 => repeat (with_reducible first | exact HB.out | apply below_alloc | apply yaf | apply below_drew1 | refine below_set ?_ (IsS58.ge HI0.out))); rintro e w15 ⟨rfl, hi, hb, hk⟩; refine ⟨_, rfl, ?_⟩; replace a3 := yaa (Kd.R_mono (Kd.R_keep (IsS58.apart (show IsS58 w0 _ g s0_0 b6 from by repeat (with_reducible first | exact HI0.out | apply yab | apply yac | apply yag | apply yad)) (upR a3.out) (by decide)) hk (fun _ h => h.2)) (fun _ h => h.1)); replace HK := yaa (KeepBut.trans (by repeat (with_reducible first | exact HK.out | apply yae | apply keep_drewN | apply keep_drew | apply keep_alloc)) hk (.inl rfl)); replace HB := yaa (hb); replace HI0 := yaa (hi); (try clear hb hk hi)) | ((with_reducible refine gd_ 21 rfl ?_); refine Kd.R_lit (Kd.int .i64) _ 3 ?hg (N := 21) ?hd (xs := ([b1, b2, 255] : List Int)) (inner := [.int .i64 b1, .int .i64 b2, .int .i64 255]) (ok := fun _ => True) (okp := fun _ => True) ?hr ?hp (fun _ hk => hk) trivial (Below.refl _ _) (Nat.le_refl _) (by simp) ?_; (case hd => rfl); (case hg => rfl); (case hr => first | (go_simp; done) | (go_simp; rfl)); (case hp => exact (Reps.one (show Kd.M (Kd.int .i64) _ _ _ b1 [.int .i64 b1] from rfl) (Reps.one (show Kd.M (Kd.int .i64) _ _ _ b2 [.int .i64 b2] from rfl) (Reps.one (show Kd.M (Kd.int .i64) _ _ _ 255 [.int .i64 255] from rfl) (Reps.none _ _))))); intro c6 w16 b3 hb hg_ hnew_; clear hg_ hnew_; (first | rw [← Ny110.out] at b3 | (simp only [Int.reduceToNat] at b3; rw [← Ny110.out] at b3)); replace a3 := yaa (Kd.R_below (upR a3.out) hb); have a5 := yaa (Kd.R_lower b3 (keep_size (w := w) (g := g) (row := none) (by repeat (with_reducible first | exact HK.out | apply yae | apply keep_drewN | apply keep_drew | apply keep_alloc)))); replace HK := yaa (KeepBut.trans (by repeat (with_reducible first | exact HK.out | apply yae | apply keep_drewN | apply keep_drew | apply keep_alloc)) (KeepBut.of_below hb g none) (.inl rfl)); replace HB := yaa (below_step (by repeat (with_reducible first | exact HB.out | apply below_alloc | apply yaf | apply below_drew1 | refine below_set ?_ (IsS58.ge HI0.out))) hb); replace HI0 := yaa (IsS58.below (by repeat (with_reducible first | exact HI0.out | apply yab | apply yac | apply yag | apply yad)) hb); clear hb b3) | ((with_reducible refine gc_ 14 rfl ?_); refine gl_ (some 23) rfl Try.func14 #[.pointer (some ⟨g, 0, none⟩), .int .i64 3] ?_; (with_reducible refine (spec_l20Rd_pick.calls k1 g s0_0 b4 3 a6 b7 w0 _ ?side1 ?side2 A10.out).mono ?_); (case side1 => repeat (with_reducible first | exact HI0.out | apply yab | apply yac | apply yag | apply yad)); (case side2 => repeat (with_reducible first | exact HB.out | apply below_alloc | apply yaf | apply below_drew1 | refine below_set ?_ (IsS58.ge HI0.out))); rintro e w18 ⟨rfl, hi, hb, hk⟩; refine ⟨_, rfl, ?_⟩; replace a3 := yaa (Kd.R_mono (Kd.R_keep (IsS58.apart (show IsS58 w0 _ g s0_0 b4 from by repeat (with_reducible first | exact HI0.out | apply yab | apply yac | apply yag | apply yad)) (upR a3.out) (by decide)) hk (fun _ h => h.2)) (fun _ h => h.1)); replace a5 := yaa (Kd.R_mono (Kd.R_keep (IsS58.apart (show IsS58 w0 _ g s0_0 b4 from by repeat (with_reducible first | exact HI0.out | apply yab | apply yac | apply yag | apply yad)) (upR a5.out) (by decide)) hk (fun _ h => h.2)) (fun _ h => h.1)); replace HK := yaa (KeepBut.trans (by repeat (with_reducible first | exact HK.out | apply yae | apply keep_drewN | apply keep_drew | apply keep_alloc)) hk (.inl rfl)); replace HB := yaa (hb); replace HI0 := yaa (hi); (try clear hb hk hi); obtain ⟨c8, c9, c3⟩ := Kd.R_slice a5.out; subst c3; have p115 : 0 ≤ (a6 : Int) := of_decide_eq_true (by assumption); have q115 : a6 < (y110.length : Int) := of_decide_eq_true (by assumption); obtain ⟨ad115, c4, c0⟩ := Kd.at_int (Kd.R_reads' a5.out).2.2 a6 p115 q115; cases c4; replace p115 := eq_true p115; replace q115 := eq_true q115) | ((with_reducible refine gate_builtin (b := .append) (xs := #[.tmp 16, .tmp 27]) rfl ?_); at_builtin; refine Kd.R_append (Kd.int .u8) w.heap.size rfl (.tmp 16) (.tmp 27) 22 5 (.int .u8 0) 1 rfl Try.underlying22 info5 rfl (by decide) (by omega) u5 b0 ((rd y110 a6) % 256) [.int .u8 ((rd y110 a6) % 256)] (fun _ => True) (fun _ => False) rfl rfl ?aP (fun _ hk => hk.elim) ?aF ?aO (Below.refl _ _) ?aS ?aL ?_; (case aP => exact rfl); (case aF => exact (fun _ _ => trivial)); (case aO => exact (upR a3.out)); (case aS => exact (keep_size (w := w) (g := g) (row := none) (by repeat (with_reducible first | exact HK.out | apply yae | apply keep_drewN | apply keep_drew | apply keep_alloc)))); (case aL => have := LMc13.out; omega); intro d0 w20 ho hb hg hat; rw [← Ny116.out] at ho; replace a5 := yaa (Kd.R_over' (upR a5.out) (Kd.R_typed (upR a3.out)) (by decide) hg); replace HB := yaa (below_weaken (by repeat (with_reducible first | exact HB.out | apply below_alloc | apply yaf | apply below_drew1 | refine below_set ?_ (IsS58.ge HI0.out))) HL.out hb); replace HI0 := yaa (IsS58.grown (by repeat (with_reducible first | exact HI0.out | apply yab | apply yac | apply yag | apply yad)) hg (IsS58.own_ne HI0.out a3.out (by decide))); replace HK := yaa (KeepBut.trans (by repeat (with_reducible first | exact HK.out | apply yae | apply keep_drewN | apply keep_drew | apply keep_alloc)) (KeepBut.of_grown hg g) (Kd.R_base2 a3.out)); have b5 := yaa (ho); clear a3; clear ho hb hg hat))
       go_roundg k1
       case measure => have := HK1.out; omega
       case rel => exact ⟨(y116), (wrap64 (a8 - 1)), (b7), (by first | rfl | (simp; done) | (simp [*]; done)), H', ⟨by have := HK1.out; omega⟩, ⟨by first | exact b5.out | exact upR b5.out⟩, ⟨by repeat (with_reducible first | exact HI0.out | apply yab | apply yac | apply yag | apply yad)⟩, ⟨by repeat (with_reducible first | exact HK.out | apply yae | apply keep_drewN | apply keep_drew | apply keep_alloc)⟩, ⟨by repeat (with_reducible first | exact HB.out | apply below_alloc | apply yaf | apply below_drew1 | refine below_set ?_ (IsS58.ge HI0.out))⟩⟩
      ·
       rw [if_neg c13] at H
       exact absurd H (by simp)
     ·
      rw [if_neg c12] at H
      exact absurd H (by simp)
    ·
     rw [if_neg c11] at H
     exact absurd H (by simp)
   ·
    rw [if_neg c7] at H
    have c2 : decide (0 < a8) = false := decide_eq_false c7; clear c7
    simp only [Option.some.injEq, Prod.mk.injEq] at H
    obtain ⟨rfl, rfl⟩ := H
    go_wp2
    go_ret
    exact ⟨_, by first | rfl | (simp [*, errW_none, errW_some] <;> rfl), by first | exact a3.out | exact upR a3.out, by repeat (with_reducible first | exact HI0.out | apply yab | apply yac | apply yag | apply yad), by repeat (with_reducible first | exact HB.out | apply below_alloc | apply yaf | apply below_drew1 | refine below_set ?_ (IsS58.ge HI0.out)), by repeat (with_reducible first | exact HK.out | apply yae | apply keep_drewN | apply keep_drew | apply keep_alloc)⟩
end
section
open Go.Proofs.YtljobjpldbdhoaaW.PrintWords.Aside0 renaming mk → yaa
open Go.Proofs.Ytljobjpldbdhoaa.X.IsS58 renaming alloc → yab, drewN → yac, set_1 → yad, drew → yae, far → yaf, apart → yaq, below → yay
open Go.Proofs.YtljobjpldbdhoaaW.PrintWords.Kd renaming R_mono → yag, R_alloc → yah, R_drewN → yai, R_drew → yam, R_keep → yat, R_elder' → yaw, int → yba
open Go.Proofs.YtljobjpldbdhoaaW.PrintWords.KeepBut renaming set_ → yaj, trans → yav
open Go.Proofs.YtljobjpldbdhoaaW.PrintWords renaming pw_below_drewN → yak, below_set → yal, keep_drewN → yan, keep_alloc → yao, below_drew1 → yap, below_alloc → yar, keep_drew → yas, keep_far → yau
open Go.Proofs.YtljobjpldbdhoaaW.PrintLast renaming steps_cons → yax, putSel_upk → yaz

abbrev q26_0 : Array Bool := Array.replicate 26 false
abbrev q26_1 : Array Bool := bl_ 26 1
abbrev q26_2 : Array Bool := bl_ 26 3
abbrev q26_3 : Array Bool := bl_ 26 7
abbrev q26_4 : Array Bool := bl_ 26 39
abbrev q26_5 : Array Bool := bl_ 26 551
abbrev q26_6 : Array Bool := bl_ 26 1575
abbrev q26_7 : Array Bool := bl_ 26 9767
abbrev q26_8 : Array Bool := bl_ 26 140839
abbrev q26_9 : Array Bool := bl_ 26 1189415
def spec_l20Pix.f (k : Nat) (s0_0 : List Int) (s0_1 : Int) : Option (Int × Int × Int × Int × Int) := (spec_l20Rd_pick.f k s0_0 s0_1 256).bind fun bt102 => ((some (([0, 255, bt102.1] : List Int) : List Int)).bind fun y104 => ((spec_l20Rd_pick.f k s0_0 bt102.2 3).bind fun bt107 => (if 0 ≤ bt107.1 then (if bt107.1 < (y104.length : Int) then ((spec_l20Rd_pick.f k s0_0 bt107.2 256).bind fun bt110 => ((some (([rd y104 bt107.1, bt110.1] : List Int) : List Int)).bind fun y112 => ((spec_l20Rd_pick.f k s0_0 bt110.2 2).bind fun bt115 => (if 0 ≤ bt115.1 then (if bt115.1 < (y112.length : Int) then ((spec_l20Rd_pick.f k s0_0 bt115.2 256).bind fun bt118 => ((some (([rd y104 bt107.1, bt118.1] : List Int) : List Int)).bind fun y120 => ((spec_l20Rd_pick.f k s0_0 bt118.2 2).bind fun bt123 => (if 0 ≤ bt123.1 then (if bt123.1 < (y120.length : Int) then ((spec_l20Rd_pick.f k s0_0 bt123.2 256).bind fun bt126 => ((some (([255, 255, 0, bt126.1] : List Int) : List Int)).bind fun y128 => ((spec_l20Rd_pick.f k s0_0 bt126.2 4).bind fun bt131 => (if 0 ≤ bt131.1 then (if bt131.1 < (y128.length : Int) then (some (rd y104 bt107.1, rd y112 bt115.1, rd y120 bt123.1, rd y128 bt131.1, bt131.2)) else (none)) else (none))))) else (none)) else (none))))) else (none)) else (none))))) else (none)) else (none))))
def spec_l20Pix.T2 : Bool × List (List Nat × List Nat) := (true, [([], []), ([], []), ([], []), ([2], [2]), ([1, 3], [1, 3]), ([], []), ([5, 3], [5]), ([4, 6], [4, 6]), ([7], [7]), ([], []), ([], []), ([10, 6], [10]), ([9, 11], [9, 11]), ([], []), ([13, 11], [13]), ([12, 14], [12, 14]), ([15], [15]), ([], []), ([17, 14], [17]), ([18], [18]), ([], []), ([20, 18], [20]), ([19, 21], [19, 21]), ([22], [22]), ([0, 8, 16, 23], [0, 8, 16, 23]), ([24, 21, 0, 1, 2, 3, 4, 5, 6, 7, 8, 9, 10, 11, 12, 13, 14, 15, 16, 17, 18, 19, 20, 21, 22, 23, 24], [24])])
def spec_l20Pix.B2 : List Nat := [0, 0, 0, 4, 14, 0, 44, 126, 254, 0, 0, 1132, 3692, 0, 11372, 32364, 65132, 0, 158828, 420972, 0, 1469548, 4090988, 8285292, 16777215, 33554431]
theorem spec_l20Pix.tab2 : rtab .any (opsOf Try.f26 2) = spec_l20Pix.T2 := by kernel_rfl
theorem spec_l20Pix.bits2 : waitsOk spec_l20Pix.T2.2 spec_l20Pix.B2 = true := by kernel_rfl
set_option maxHeartbeats 8000000 in
set_option maxRecDepth 100000 in
theorem spec_l20Pix.calls (k : Nat) (g : Nat) (s0_0 : List Int) (s0_1 : Int) (r1 : Int) (r2 : Int) (r3 : Int) (r4 : Int) (r5 : Int) (w0 w : World) (hI : IsS58 w0 w g s0_0 s0_1) (hB : Below w0.heap.size w0 w) (h : spec_l20Pix.f k s0_0 s0_1 = some (r1, r2, r3, r4, r5)) :
  Calls Try.prog 26 #[.pointer (some ⟨g, 0, none⟩)] w fun e w' => e = .returned (.agg #[.int .i64 r1, .int .i64 r2, .int .i64 r3, .int .i64 r4]) ∧ IsS58 w0 w' g s0_0 r5 ∧ Below w0.heap.size w0 w' ∧ KeepBut w w' g none := by
 have hu53 := Try.underlying53; have HI0 := yaa hI; have HK := yaa (KeepBut.refl w g none); have HL := yaa hB.size; clear hI; have HW0 := yaa hB.size; have HB := yaa hB; clear hB; have H : ((spec_l20Rd_pick.f k s0_0 s0_1 256).bind fun h9 => ((some (([0, 255, h9.1] : List Int) : List Int)).bind fun y104 => ((spec_l20Rd_pick.f k s0_0 h9.2 3).bind fun g4 => (if 0 ≤ g4.1 then (if g4.1 < (y104.length : Int) then ((spec_l20Rd_pick.f k s0_0 g4.2 256).bind fun i0 => ((some (([rd y104 g4.1, i0.1] : List Int) : List Int)).bind fun y112 => ((spec_l20Rd_pick.f k s0_0 i0.2 2).bind fun h0 => (if 0 ≤ h0.1 then (if h0.1 < (y112.length : Int) then ((spec_l20Rd_pick.f k s0_0 h0.2 256).bind fun i1 => ((some (([rd y104 g4.1, i1.1] : List Int) : List Int)).bind fun y120 => ((spec_l20Rd_pick.f k s0_0 i1.2 2).bind fun h1 => (if 0 ≤ h1.1 then (if h1.1 < (y120.length : Int) then ((spec_l20Rd_pick.f k s0_0 h1.2 256).bind fun i2 => ((some (([255, 255, 0, i2.1] : List Int) : List Int)).bind fun y128 => ((spec_l20Rd_pick.f k s0_0 i2.2 4).bind fun h2 => (if 0 ≤ h2.1 then (if h2.1 < (y128.length : Int) then (some (rd y104 g4.1, rd y112 h0.1, rd y120 h1.1, rd y128 h2.1, h2.2)) else (none)) else (none))))) else (none)) else (none))))) else (none)) else (none))))) else (none)) else (none))))) = some (r1, r2, r3, r4, r5) := h; clear h; obtain ⟨⟨h3, i3⟩, A2, H⟩ := bindA H; (try dsimp only at H); obtain ⟨y104, hy104, H⟩ := bindY H; (try dsimp only at H); have Ny104 := yaa hy104; clear hy104; obtain ⟨⟨e1, h8⟩, A3, H⟩ := bindA H; (try dsimp only at H)
 by_cases c4 : 0 ≤ e1
 ·
  rw [if_pos c4] at H
  replace c4 := decide_eq_true c4
  by_cases c5 : e1 < (y104.length : Int)
  ·
   rw [if_pos c5] at H
   replace c5 := decide_eq_true c5; obtain ⟨⟨g5, g8⟩, A6, H⟩ := bindA H; (try dsimp only at H); obtain ⟨y112, hy112, H⟩ := bindY H; (try dsimp only at H); have Ny112 := yaa hy112; clear hy112; obtain ⟨⟨e4, g9⟩, A7, H⟩ := bindA H; (try dsimp only at H)
   by_cases c8 : 0 ≤ e4
   ·
    rw [if_pos c8] at H
    replace c8 := decide_eq_true c8
    by_cases c9 : e4 < (y112.length : Int)
    ·
     rw [if_pos c9] at H
     replace c9 := decide_eq_true c9; obtain ⟨⟨g6, f9⟩, A10, H⟩ := bindA H; (try dsimp only at H); obtain ⟨y120, hy120, H⟩ := bindY H; (try dsimp only at H); have Ny120 := yaa hy120; clear hy120; obtain ⟨⟨e5, g0⟩, A11, H⟩ := bindA H; (try dsimp only at H)
     by_cases c12 : 0 ≤ e5
     ·
      rw [if_pos c12] at H
      replace c12 := decide_eq_true c12
      by_cases c13 : e5 < (y120.length : Int)
      ·
       rw [if_pos c13] at H
       replace c13 := decide_eq_true c13; obtain ⟨⟨g7, f6⟩, A14, H⟩ := bindA H; (try dsimp only at H); obtain ⟨y128, hy128, H⟩ := bindY H; (try dsimp only at H); have Ny128 := yaa hy128; clear hy128; obtain ⟨⟨e6, h4⟩, A15, H⟩ := bindA H; (try dsimp only at H)
       by_cases c16 : 0 ≤ e6
       ·
        rw [if_pos c16] at H
        replace c16 := decide_eq_true c16
        by_cases c17 : e6 < (y128.length : Int)
        ·
         rw [if_pos c17] at H
         replace c17 := decide_eq_true c17
         simp only [Option.some.injEq, Prod.mk.injEq] at H
         obtain ⟨rfl, rfl, rfl, rfl, rfl⟩ := H
         go_enter Try.func26, Try.ntmps26
         try go_wp2_with (first | ((with_reducible refine gd_ 2 rfl ?_); refine bx_ 2 rfl #[.int .i64 0, .int .i64 0, .int .i64 0, .int .i64 0] 53 ?_; intro d2 hg w18 hbox hb; replace HB := yaa (below_step (by repeat (with_reducible first | exact HB.out | apply yar | apply yak | apply yap | refine yal ?_ (IsS58.ge HI0.out))) hb); have a7 := yaa (hbox); have d4 := yaa ((by rw [hg]; exact (keep_size (w := w) (g := g) (row := none) (by repeat (with_reducible first | exact HK.out | apply yaj | apply yan | apply yas | apply yao))) : w.heap.size ≤ d2)); have k2 := yaa ((Nat.le_trans HW0.out (by rw [hg]; exact (keep_size (w := w) (g := g) (row := none) (by repeat (with_reducible first | exact HK.out | apply yaj | apply yan | apply yas | apply yao))) : w.heap.size ≤ d2) : w0.heap.size ≤ d2)); replace HK := yaa (yav (by repeat (with_reducible first | exact HK.out | apply yaj | apply yan | apply yas | apply yao)) (KeepBut.of_below hb g none) (.inl rfl)); have a4 := yaa ((by rw [hg]; exact Nat.ne_of_lt (IsS58.lt (show IsS58 w0 _ g s0_0 s0_1 from by repeat (with_reducible first | exact HI0.out | apply yab | apply yac | apply yae | apply yad))) : g ≠ d2)); replace HI0 := yaa (yay (by repeat (with_reducible first | exact HI0.out | apply yab | apply yac | apply yae | apply yad)) hb); have e8 := yaa a4.out.symm; clear hb hbox hg) | ((with_reducible refine gc_ 14 rfl ?_); refine gl_ (some 5) rfl Try.func14 #[.pointer (some ⟨g, 0, none⟩), .int .i64 256] ?_; (with_reducible refine (spec_l20Rd_pick.calls k g s0_0 s0_1 256 h3 i3 w0 _ ?side1 ?side2 A2.out).mono ?_); (case side1 => repeat (with_reducible first | exact HI0.out | apply yab | apply yac | apply yae | apply yad | refine yaf ?_ a4.out _)); (case side2 => repeat (with_reducible first | exact HB.out | apply yar | apply yak | apply yap | refine yal ?_ (Aside0.out ‹_›) | refine yal ?_ (IsS58.ge HI0.out))); rintro e w19 ⟨rfl, hi, hb, hk⟩; refine ⟨_, rfl, ?_⟩; replace a7 := yaa (KeepBut.blk hk (upB a7.out) e8.out (by simp)); replace HK := yaa (yav (by repeat (with_reducible first | exact HK.out | apply yaj | apply yan | apply yas | apply yao | refine yau ?_ d4.out _)) hk (.inl rfl)); replace HB := yaa (hb); replace HI0 := yaa (hi); (try clear hb hk hi)) | ((with_reducible refine gd_ 6 rfl ?_); refine Kd.R_lit (yba .i64) _ 3 ?hg (N := 6) ?hd (xs := ([0, 255, h3] : List Int)) (inner := [.int .i64 0, .int .i64 255, .int .i64 h3]) (ok := fun _ => True) (okp := fun _ => True) ?hr ?hp (fun _ hk => hk) trivial (Below.refl _ _) (Nat.le_refl _) (by simp) ?_; (case hd => rfl); (case hg => rfl); (case hr => first | (go_simp; done) | (go_simp; rfl)); (case hp => exact (Reps.one (show Kd.M (yba .i64) _ _ _ 0 [.int .i64 0] from rfl) (Reps.one (show Kd.M (yba .i64) _ _ _ 255 [.int .i64 255] from rfl) (Reps.one (show Kd.M (yba .i64) _ _ _ h3 [.int .i64 h3] from rfl) (Reps.none _ _))))); intro k7 w20 h5 hb hg_ hnew_; clear hg_ hnew_; (first | rw [← Ny104.out] at h5 | (simp only [Int.reduceToNat] at h5; rw [← Ny104.out] at h5)); have b5 := yaa (Kd.R_lower h5 (keep_size (w := w) (g := g) (row := none) (by repeat (with_reducible first | exact HK.out | apply yaj | apply yan | apply yas | apply yao | refine yau ?_ d4.out _)))); replace a7 := yaa (blk_below (upB a7.out) hb); replace HK := yaa (yav (by repeat (with_reducible first | exact HK.out | apply yaj | apply yan | apply yas | apply yao | refine yau ?_ d4.out _)) (KeepBut.of_below hb g none) (.inl rfl)); replace HB := yaa (below_step (by repeat (with_reducible first | exact HB.out | apply yar | apply yak | apply yap | refine yal ?_ (Aside0.out ‹_›) | refine yal ?_ (IsS58.ge HI0.out))) hb); replace HI0 := yaa (yay (by repeat (with_reducible first | exact HI0.out | apply yab | apply yac | apply yae | apply yad | refine yaf ?_ a4.out _)) hb); clear hb h5) | ((with_reducible refine gc_ 14 rfl ?_); refine gl_ (some 8) rfl Try.func14 #[.pointer (some ⟨g, 0, none⟩), .int .i64 3] ?_; (with_reducible refine (spec_l20Rd_pick.calls k g s0_0 i3 3 e1 h8 w0 _ ?side1 ?side2 A3.out).mono ?_); (case side1 => repeat (with_reducible first | exact HI0.out | apply yab | apply yac | apply yae | apply yad | refine yaf ?_ a4.out _)); (case side2 => repeat (with_reducible first | exact HB.out | apply yar | apply yak | apply yap | refine yal ?_ (Aside0.out ‹_›) | refine yal ?_ (IsS58.ge HI0.out))); rintro e w22 ⟨rfl, hi, hb, hk⟩; refine ⟨_, rfl, ?_⟩; replace a7 := yaa (KeepBut.blk hk (upB a7.out) e8.out (by simp)); replace b5 := yaa (yag (yat (yaq (show IsS58 w0 _ g s0_0 i3 from by repeat (with_reducible first | exact HI0.out | apply yab | apply yac | apply yae | apply yad | refine yaf ?_ a4.out _)) (upR b5.out) (by decide)) hk (fun _ h => h.2)) (fun _ h => h.1)); replace HK := yaa (yav (by repeat (with_reducible first | exact HK.out | apply yaj | apply yan | apply yas | apply yao | refine yau ?_ d4.out _)) hk (.inl rfl)); replace HB := yaa (hb); replace HI0 := yaa (hi); (try clear hb hk hi); obtain ⟨k8, f1, i5⟩ := Kd.R_slice b5.out; subst i5; have p109 : 0 ≤ (e1 : Int) := of_decide_eq_true (by assumption); have q109 : e1 < (y104.length : Int) := of_decide_eq_true (by assumption); obtain ⟨ad109, i6, i4⟩ := Kd.at_int (Kd.R_reads' b5.out).2.2 e1 p109 q109; cases i6; replace p109 := eq_true p109; replace q109 := eq_true q109))
         have pi117 : (0 ≤ (e4 : Int)) = True := eq_true (of_decide_eq_true (by assumption)); have qi117 : (e4 < (y112.length : Int)) = True := eq_true (of_decide_eq_true (by assumption)); have pi125 : (0 ≤ (e5 : Int)) = True := eq_true (of_decide_eq_true (by assumption)); have qi125 : (e5 < (y120.length : Int)) = True := eq_true (of_decide_eq_true (by assumption)); have pi133 : (0 ≤ (e6 : Int)) = True := eq_true (of_decide_eq_true (by assumption)); have qi133 : (e6 < (y128.length : Int)) = True := eq_true (of_decide_eq_true (by assumption)); replace b5 := yaa (yam b5.out); replace a7 := yaa (blk_drew a7.out); replace HI0 := yaa (yae HI0.out); replace HK := yaa (yas HK.out); replace HB := yaa (yap HB.out)
         refine start_ (n := 26) (S := fun w' => True) (ds := []) q26_0 (by kernel_rfl) rfl rfl trivial (fun hHeld => ?_); refine with_tabW spec_l20Pix.tab2 spec_l20Pix.bits2 (fun HT_ HW_ => ?_)
         generalize w22.drew = w24 at b5 a7 HI0 HK HB hHeld ⊢
         refine pz_ 0 11 q26_1 HT_ (by kernel_rfl) ?_
         refine pz_ 1 12 q26_2 HT_ (by kernel_rfl) ?_
         refine pz_ 2 13 q26_3 HT_ (by kernel_rfl) ?_
         refine pz_ 5 16 q26_4 HT_ (by kernel_rfl) ?_
         refine pz_ 9 20 q26_5 HT_ (by kernel_rfl) ?_
         refine pz_ 10 21 q26_6 HT_ (by kernel_rfl) ?_
         refine pz_ 13 24 q26_7 HT_ (by kernel_rfl) ?_
         refine pz_ 17 28 q26_8 HT_ (by kernel_rfl) ?_
         refine pz_ 20 31 q26_9 HT_ (by kernel_rfl) ?_
         refine inv_at [3, 4, 6, 7, 8, 11, 12, 14, 15, 16, 18, 19, 21, 22, 23, 24, 25] (fun a0_ b a w' => ∃ (d0 : Value) (a8 : Addr) (d1 : Value) (a9 : Addr) (d3 : Value) (b0 : Addr) (m7_ : Value) (d5 : Value) (d6 : Value), a = putSel a0_ b [(3, 14, .int .i64 g5), (4, 15, d0), (6, 17, .int .i64 e4), (7, 18, m7_), (8, 19, .int .i64 (rd y112 e4)), (11, 22, .int .i64 g6), (12, 23, d1), (14, 25, .int .i64 e5), (15, 26, d5), (16, 27, .int .i64 (rd y120 e5)), (18, 29, .int .i64 g7), (19, 30, d3), (21, 32, .int .i64 e6), (22, 33, d6), (23, 34, .int .i64 (rd y128 e6)), (24, 35, .agg #[.int .i64 (rd y104 e1), .int .i64 (rd y112 e4), .int .i64 (rd y120 e5), .int .i64 (rd y128 e6)])] ∧ (Kd.R (yba .i64) 3 w' w.heap.size (fun _ => True) (.slice (some ad109) y104.length f1) y104) ∧ (b 25 = false → w'.heap[d2]? = some (.cells #[.int .i64 0, .int .i64 0, .int .i64 0, .int .i64 0] 53 (0, 0))) ∧ (b 3 = false → IsS58 w0 w' g s0_0 h8) ∧ (KeepBut w w' g none) ∧ (Below w0.heap.size w0 w') ∧ (b 3 = true → b 6 = false → IsS58 w0 w' g s0_0 g8) ∧ (b 4 = true → Kd.R (yba .i64) 3 w' w.heap.size (fun k_ => some k_ ≠ (.slice (some ad109) y104.length f1 : Value).ownBlock) d0 y112) ∧ (b 4 = true → ∃ c_, (d0 : Value) = .slice (some a8) y112.length c_) ∧ (b 6 = true → b 11 = false → IsS58 w0 w' g s0_0 g9) ∧ (b 11 = true → b 14 = false → IsS58 w0 w' g s0_0 f9) ∧ (b 12 = true → Kd.R (yba .i64) 3 w' w.heap.size (fun k_ => some k_ ≠ (.slice (some ad109) y104.length f1 : Value).ownBlock) d1 y120) ∧ (b 12 = true → ∃ c_, (d1 : Value) = .slice (some a9) y120.length c_) ∧ (b 14 = true → b 18 = false → IsS58 w0 w' g s0_0 g0) ∧ (b 18 = true → b 21 = false → IsS58 w0 w' g s0_0 f6) ∧ (b 19 = true → Kd.R (yba .i64) 3 w' w.heap.size (fun k_ => some k_ ≠ (.slice (some ad109) y104.length f1 : Value).ownBlock) d3 y128) ∧ (b 19 = true → ∃ c_, (d3 : Value) = .slice (some b0) y128.length c_) ∧ (b 21 = true → IsS58 w0 w' g s0_0 h4) ∧ (b 25 = true → w'.heap[d2]? = some (.cells #[.int .i64 (rd y104 e1), .int .i64 (rd y112 e4), .int .i64 (rd y120 e5), .int .i64 (rd y128 e6)] 53 (0, 0))) ∧ (b 7 = true → (m7_ : Value) = .pointer (some (a8.add (e4).toNat))) ∧ (b 15 = true → (d5 : Value) = .pointer (some (a9.add (e5).toNat))) ∧ (b 22 = true → (d6 : Value) = .pointer (some (b0.add (e6).toNat)))) HT_.out HW_.out (by kernel_rfl) (by kernel_rfl) ?_ ?_ ?_
         ·
          exact ⟨.bool false, ⟨0, 0, none⟩, .bool false, ⟨0, 0, none⟩, .bool false, ⟨0, 0, none⟩, .bool false, .bool false, .bool false, by simp only [putSel, Bool.false_eq_true, if_false], b5.out, fun _ => a7.out, fun _ => HI0.out, HK.out, HB.out, fun h_ => absurd h_ (by decide), fun h_ => absurd h_ (by decide), fun h_ => absurd h_ (by decide), fun h_ => absurd h_ (by decide), fun h_ => absurd h_ (by decide), fun h_ => absurd h_ (by decide), fun h_ => absurd h_ (by decide), fun h_ => absurd h_ (by decide), fun h_ => absurd h_ (by decide), fun h_ => absurd h_ (by decide), fun h_ => absurd h_ (by decide), fun h_ => absurd h_ (by decide), fun h_ => absurd h_ (by decide), fun h_ => absurd h_ (by decide), fun h_ => absurd h_ (by decide), fun h_ => absurd h_ (by decide)⟩
         ·
          skip
          clear a7 HB HI0 HK b5
          refine yax ?_ ?_
          ·
           rintro b a w' ⟨d0, a8, d1, a9, d3, b0, m7_, d5, d6, ha, b2, b3, e3, Q_HK, Q_HB, c2, b1, a2, c1, b9, b6, a3, b7, b4, b8, a5, a6, c0, c7, c3, c6⟩ hb_ hon hoff
           refine ⟨_, rfl, fun K hK => ?_⟩; have e13 : a.tmps[13]? = some (.pointer (some ⟨g, 0, none⟩)) := (by rw [ha]; exact (putSel_off rfl).trans rfl); replace ha := yaa ha; have b5 := yaa b2; have a7 := yaa (b3 (hoff 25 (by kernel_rfl))); have HI0 := yaa (e3 hb_); have HK := yaa Q_HK; have HB := yaa Q_HB
           refine goes_ Try.func14 (by kernel_rfl) rfl #[.pointer (some ⟨g, 0, none⟩), .int .i64 256] (by rfl) rfl rfl (by first | (simp only [List.map_toArray, List.map_cons, List.map_nil, Act.eval, Array.getD_eq_getD_getElem?, Option.getD_some, e13]; done) | (simp only [List.map_toArray, List.map_cons, List.map_nil, Act.eval, Array.getD_eq_getD_getElem?, Option.getD_some, e13]; rfl)) ?_
           with_reducible refine (spec_l20Rd_pick.calls k g s0_0 h8 256 g5 g8 w0 _ ?side1 ?side2 A6.out).mono ?_
           (case side1 => repeat (with_reducible first | exact HI0.out | apply yab | apply yac | apply yae | apply yad | refine yaf ?_ a4.out _))
           (case side2 => repeat (with_reducible first | exact HB.out | apply yar | apply yak | apply yap | refine yal ?_ (Aside0.out ‹_›) | refine yal ?_ (IsS58.ge HI0.out)))
           rintro e w25 ⟨rfl, hi, hb, hk⟩; refine ⟨_, rfl, ?_⟩; have n0_ := yaa (KeepBut.blk hk (upB a7.out) e8.out (by simp))
           have n1_ := yaa (yag (yat (yaq (show IsS58 w0 _ g s0_0 h8 from by repeat (with_reducible first | exact HI0.out | apply yab | apply yac | apply yae | apply yad | refine yaf ?_ a4.out _)) (upR b5.out) (by decide)) hk (fun _ h => h.2)) (fun _ h => h.1))
           have n2_ := yaa (yav (by repeat (with_reducible first | exact HK.out | apply yaj | apply yan | apply yas | apply yao | refine yau ?_ d4.out _)) hk (.inl rfl))
           have n3_ := yaa (hb); have n4_ := yaa (hi); clear a7; clear b5; clear HK; clear HB; clear HI0; have a7 := n0_; have b5 := n1_; have HK := n2_; have HB := n3_; have HI0 := n4_; clear n0_ n1_ n2_ n3_ n4_; (try clear hb); (try clear hb2); (try clear hk); (try clear hi)
           refine hK.out _ _ ⟨d0, a8, d1, a9, d3, b0, m7_, d5, d6, (by rw [ha.out]; exact yaz 0 hb_ rfl rfl rfl), (upR b5.out), fun _ => (upB a7.out), fun h0_ => absurd ((up_self b 3).symm.trans h0_) (by decide), (by repeat (with_reducible first | exact HK.out | apply yaj | apply yan | apply yas | apply yao | refine yau ?_ d4.out _)), (by repeat (with_reducible first | exact HB.out | apply yar | apply yak | apply yap | refine yal ?_ (Aside0.out ‹_›) | refine yal ?_ (IsS58.ge HI0.out))), fun _ _ => (by repeat (with_reducible first | exact HI0.out | apply yab | apply yac | apply yae | apply yad | refine yaf ?_ a4.out _)), offA_ (hoff 4 (by kernel_rfl)), offA_ (hoff 4 (by kernel_rfl)), fun h0_ _ => absurd ((hoff 6 (by kernel_rfl)).symm.trans h0_) (by decide), fun h0_ _ => absurd ((hoff 11 (by kernel_rfl)).symm.trans h0_) (by decide), offA_ (hoff 12 (by kernel_rfl)), offA_ (hoff 12 (by kernel_rfl)), fun h0_ _ => absurd ((hoff 14 (by kernel_rfl)).symm.trans h0_) (by decide), fun h0_ _ => absurd ((hoff 18 (by kernel_rfl)).symm.trans h0_) (by decide), offA_ (hoff 19 (by kernel_rfl)), offA_ (hoff 19 (by kernel_rfl)), offA_ (hoff 21 (by kernel_rfl)), offA_ (hoff 25 (by kernel_rfl)), offA_ (hoff 7 (by kernel_rfl)), offA_ (hoff 15 (by kernel_rfl)), offA_ (hoff 22 (by kernel_rfl))⟩
          refine yax ?_ ?_
          ·
           rintro b a w' ⟨d0, a8, d1, a9, d3, b0, m7_, d5, d6, ha, b2, b3, e3, Q_HK, Q_HB, c2, b1, a2, c1, b9, b6, a3, b7, b4, b8, a5, a6, c0, c7, c3, c6⟩ hb_ hon hoff
           refine ⟨_, rfl, fun K hK => ?_⟩; have e12 : a.tmps[12]? = some (.int .i64 (rd y104 e1)) := (by rw [ha]; exact (putSel_off rfl).trans rfl); have e14 : a.tmps[14]? = some (.int .i64 g5) := (by rw [ha]; exact putSel_on (e := (3, 14, .int .i64 g5)) 0 rfl rfl (hon 3 (by kernel_rfl)) rfl); replace ha := yaa ha; have b5 := yaa b2; have a7 := yaa (b3 (hoff 25 (by kernel_rfl))); have HK := yaa Q_HK; have HB := yaa Q_HB
           refine Kd.R_lit_step (yba .i64) _ 3 ?hg (N := 15) ?hd (xs := ([rd y104 e1, g5] : List Int)) (inner := [.int .i64 (rd y104 e1), .int .i64 g5]) (ok := fun _ => True) (okp := fun _ => True) ?hr ?hp (fun _ hk => hk) trivial (Below.refl _ _) (Nat.le_refl _) (by simp) ?_; (case hd => rfl); (case hg => rfl); (case hr => first | (go_simp; done) | (go_simp; rfl)); (case hp => exact (Reps.one (show Kd.M (yba .i64) _ _ _ (rd y104 e1) [.int .i64 (rd y104 e1)] from rfl) (Reps.one (show Kd.M (yba .i64) _ _ _ g5 [.int .i64 g5] from rfl) (Reps.none _ _))))
           intro d0 w27 g1 hb hg_ hnew_; clear hg_ hnew_
           (first | rw [← Ny112.out] at g1 | (simp only [Int.reduceToNat] at g1; rw [← Ny112.out] at g1))
           have n0_ := yaa (yaw (upR b5.out) (Kd.R_base g1) hb)
           have n1_ := yaa (Kd.R_lower (Kd.R_new' g1 (Kd.R_lt (upR b5.out))) (keep_size (w := w) (g := g) (row := none) (by repeat (with_reducible first | exact HK.out | apply yaj | apply yan | apply yas | apply yao | refine yau ?_ d4.out _))))
           have n3_ := yaa (blk_below (upB a7.out) hb)
           have n4_ := yaa (yav (by repeat (with_reducible first | exact HK.out | apply yaj | apply yan | apply yas | apply yao | refine yau ?_ d4.out _)) (KeepBut.of_below hb g none) (.inl rfl))
           have n5_ := yaa (below_step (by repeat (with_reducible first | exact HB.out | apply yar | apply yak | apply yap | refine yal ?_ (Aside0.out ‹_›))) hb)
           have h6 := fun (h0_ : b 3 = true) (h1_ : b 6 = false) => (show IsS58 w0 w27 g s0_0 g8 from by first | exact (yay (by repeat (first | (with_reducible first | exact (c2 h0_ h1_) | apply yab | apply yac | apply yae | apply yad | refine yaf ?_ a4.out _) | exact (c2 h0_ h1_))) hb))
           have h7 := fun (h0_ : b 6 = true) (h1_ : b 11 = false) => (show IsS58 w0 w27 g s0_0 g9 from by first | exact (yay (by repeat (first | (with_reducible first | exact (c1 h0_ h1_) | apply yab | apply yac | apply yae | apply yad | refine yaf ?_ a4.out _) | exact (c1 h0_ h1_))) hb))
           have f7 := fun (h0_ : b 11 = true) (h1_ : b 14 = false) => (show IsS58 w0 w27 g s0_0 f9 from by first | exact (yay (by repeat (first | (with_reducible first | exact (b9 h0_ h1_) | apply yab | apply yac | apply yae | apply yad | refine yaf ?_ a4.out _) | exact (b9 h0_ h1_))) hb))
           have e7 := fun (h0_ : b 12 = true) => (show Kd.R (yba .i64) 3 w27 w.heap.size (fun k_ => some k_ ≠ (.slice (some ad109) y104.length f1 : Value).ownBlock) d1 y120 from by first | exact (yaw (by (with_reducible repeat (first | apply yah | apply yai | apply yam)); exact (b6 h0_)) (Kd.R_base g1) hb) | exact yag (yaw (by (with_reducible repeat (first | apply yah | apply yai | apply yam)); exact (b6 h0_)) (Kd.R_base g1) hb) (fun _ h_ => by first | trivial | exact h_ | exact h_.1))
           have f8 := fun (h0_ : b 14 = true) (h1_ : b 18 = false) => (show IsS58 w0 w27 g s0_0 g0 from by first | exact (yay (by repeat (first | (with_reducible first | exact (b7 h0_ h1_) | apply yab | apply yac | apply yae | apply yad | refine yaf ?_ a4.out _) | exact (b7 h0_ h1_))) hb))
           have e9 := fun (h0_ : b 18 = true) (h1_ : b 21 = false) => (show IsS58 w0 w27 g s0_0 f6 from by first | exact (yay (by repeat (first | (with_reducible first | exact (b4 h0_ h1_) | apply yab | apply yac | apply yae | apply yad | refine yaf ?_ a4.out _) | exact (b4 h0_ h1_))) hb))
           have f5 := fun (h0_ : b 19 = true) => (show Kd.R (yba .i64) 3 w27 w.heap.size (fun k_ => some k_ ≠ (.slice (some ad109) y104.length f1 : Value).ownBlock) d3 y128 from by first | exact (yaw (by (with_reducible repeat (first | apply yah | apply yai | apply yam)); exact (b8 h0_)) (Kd.R_base g1) hb) | exact yag (yaw (by (with_reducible repeat (first | apply yah | apply yai | apply yam)); exact (b8 h0_)) (Kd.R_base g1) hb) (fun _ h_ => by first | trivial | exact h_ | exact h_.1))
           have f0 := fun (h0_ : b 21 = true) => (show IsS58 w0 w27 g s0_0 h4 from by first | exact (yay (by repeat (first | (with_reducible first | exact (a6 h0_) | apply yab | apply yac | apply yae | apply yad | refine yaf ?_ a4.out _) | exact (a6 h0_))) hb))
           clear b5; clear a7; clear HK; clear HB; have b5 := n0_; have f2 := n1_; have a7 := n3_; have HK := n4_; have HB := n5_; clear n0_ n1_ n3_ n4_ n5_; clear hb g1; obtain ⟨k9, i7, i8⟩ := Kd.R_slice f2.out; subst i8; obtain ⟨ado29, fo29, _⟩ := Kd.at_int (Kd.R_reads' f2.out).2.2 0 (by decide) (by rw [Ny112.out]; simp)
           cases fo29
           refine hK.out _ _ ⟨.slice (some ado29) y112.length i7, ado29, d1, a9, d3, b0, m7_, d5, d6, (by rw [ha.out]; exact yaz 1 hb_ rfl rfl rfl), (by (with_reducible repeat (first | apply yah | apply yai | apply yam)); exact yag b5.out (fun _ hk => by first | exact hk.2 | exact True.intro)), fun _ => (upB a7.out), offA_ (hon 3 (by kernel_rfl)), (by repeat (with_reducible first | exact HK.out | apply yaj | apply yan | apply yas | apply yao | refine yau ?_ d4.out _)), (by repeat (with_reducible first | exact HB.out | apply yar | apply yak | apply yap | refine yal ?_ (Aside0.out ‹_›))), h6, fun _ => (by (with_reducible repeat (first | apply yah | apply yai | apply yam)); exact yag f2.out (fun _ hk => by first | exact hk.2 | exact True.intro)), fun _ => ⟨_, rfl⟩, h7, f7, e7, a3, f8, e9, f5, a5, f0, offA_ (hoff 25 (by kernel_rfl)), offA_ (hoff 7 (by kernel_rfl)), c3, c6⟩
          refine yax ?_ ?_
          ·
           rintro b a w' ⟨d0, a8, d1, a9, d3, b0, m7_, d5, d6, ha, b2, b3, e3, Q_HK, Q_HB, c2, b1, a2, c1, b9, b6, a3, b7, b4, b8, a5, a6, c0, c7, c3, c6⟩ hb_ hon hoff
           refine ⟨_, rfl, fun K hK => ?_⟩; have e16 : a.tmps[16]? = some (.pointer (some ⟨g, 0, none⟩)) := (by rw [ha]; exact (putSel_off rfl).trans rfl); replace ha := yaa ha; have b5 := yaa b2; have a7 := yaa (b3 (hoff 25 (by kernel_rfl))); have HK := yaa Q_HK; have HB := yaa Q_HB; have HI0 := yaa (c2 (hon 3 (by kernel_rfl)) hb_)
           refine goes_ Try.func14 (by kernel_rfl) rfl #[.pointer (some ⟨g, 0, none⟩), .int .i64 2] (by rfl) rfl rfl (by first | (simp only [List.map_toArray, List.map_cons, List.map_nil, Act.eval, Array.getD_eq_getD_getElem?, Option.getD_some, e16]; done) | (simp only [List.map_toArray, List.map_cons, List.map_nil, Act.eval, Array.getD_eq_getD_getElem?, Option.getD_some, e16]; rfl)) ?_
           with_reducible refine (spec_l20Rd_pick.calls k g s0_0 g8 2 e4 g9 w0 _ ?side1 ?side2 A7.out).mono ?_
           (case side1 => repeat (with_reducible first | exact HI0.out | apply yab | apply yac | apply yae | apply yad | refine yaf ?_ a4.out _))
           (case side2 => repeat (with_reducible first | exact HB.out | apply yar | apply yak | apply yap | refine yal ?_ (Aside0.out ‹_›) | refine yal ?_ (IsS58.ge HI0.out)))
           rintro e w27 ⟨rfl, hi, hb, hk⟩; refine ⟨_, rfl, ?_⟩; have n0_ := yaa (KeepBut.blk hk (upB a7.out) e8.out (by simp))
           have n1_ := yaa (yag (yat (yaq (show IsS58 w0 _ g s0_0 g8 from by repeat (with_reducible first | exact HI0.out | apply yab | apply yac | apply yae | apply yad | refine yaf ?_ a4.out _)) (upR b5.out) (by decide)) hk (fun _ h => h.2)) (fun _ h => h.1))
           have n2_ := yaa (yav (by repeat (with_reducible first | exact HK.out | apply yaj | apply yan | apply yas | apply yao | refine yau ?_ d4.out _)) hk (.inl rfl))
           have n3_ := yaa (hb); have n4_ := yaa (hi)
           have d7 := fun (h0_ : b 4 = true) => (show Kd.R (yba .i64) 3 w27 w.heap.size (fun k_ => some k_ ≠ (.slice (some ad109) y104.length f1 : Value).ownBlock) d0 y112 from by first | exact (yag (yat (yaq (show IsS58 w0 _ g s0_0 g8 from by repeat (with_reducible first | exact HI0.out | apply yab | apply yac | apply yae | apply yad | refine yaf ?_ a4.out _)) (by (with_reducible repeat (first | apply yah | apply yai | apply yam)); exact (b1 h0_)) (by decide)) hk (fun _ h => h.2)) (fun _ h => h.1)) | exact yag (yag (yat (yaq (show IsS58 w0 _ g s0_0 g8 from by repeat (with_reducible first | exact HI0.out | apply yab | apply yac | apply yae | apply yad | refine yaf ?_ a4.out _)) (by (with_reducible repeat (first | apply yah | apply yai | apply yam)); exact (b1 h0_)) (by decide)) hk (fun _ h => h.2)) (fun _ h => h.1)) (fun _ h_ => by first | trivial | exact h_ | exact h_.1))
           clear a7; clear b5; clear HK; clear HB; clear HI0; have a7 := n0_; have b5 := n1_; have HK := n2_; have HB := n3_; have HI0 := n4_; clear n0_ n1_ n2_ n3_ n4_; (try clear hb); (try clear hb2); (try clear hk); (try clear hi)
           refine hK.out _ _ ⟨d0, a8, d1, a9, d3, b0, m7_, d5, d6, (by rw [ha.out]; exact yaz 2 hb_ rfl rfl rfl), (upR b5.out), fun _ => (upB a7.out), offA_ (hon 3 (by kernel_rfl)), (by repeat (with_reducible first | exact HK.out | apply yaj | apply yan | apply yas | apply yao | refine yau ?_ d4.out _)), (by repeat (with_reducible first | exact HB.out | apply yar | apply yak | apply yap | refine yal ?_ (Aside0.out ‹_›) | refine yal ?_ (IsS58.ge HI0.out))), fun _ h1_ => absurd ((up_self b 6).symm.trans h1_) (by decide), d7, a2, fun _ _ => (by repeat (with_reducible first | exact HI0.out | apply yab | apply yac | apply yae | apply yad | refine yaf ?_ a4.out _)), fun h0_ _ => absurd ((hoff 11 (by kernel_rfl)).symm.trans h0_) (by decide), offA_ (hoff 12 (by kernel_rfl)), offA_ (hoff 12 (by kernel_rfl)), fun h0_ _ => absurd ((hoff 14 (by kernel_rfl)).symm.trans h0_) (by decide), fun h0_ _ => absurd ((hoff 18 (by kernel_rfl)).symm.trans h0_) (by decide), offA_ (hoff 19 (by kernel_rfl)), offA_ (hoff 19 (by kernel_rfl)), offA_ (hoff 21 (by kernel_rfl)), offA_ (hoff 25 (by kernel_rfl)), offA_ (hoff 7 (by kernel_rfl)), offA_ (hoff 15 (by kernel_rfl)), offA_ (hoff 22 (by kernel_rfl))⟩
          refine yax ?_ ?_
          ·
           rintro b a w' ⟨d0, a8, d1, a9, d3, b0, m7_, d5, d6, ha, b2, b3, e3, Q_HK, Q_HB, c2, b1, a2, c1, b9, b6, a3, b7, b4, b8, a5, a6, c0, c7, c3, c6⟩ hb_ hon hoff
           refine ⟨_, rfl, fun K hK => ?_⟩; have e15 : a.tmps[15]? = some (d0) := (by rw [ha]; exact putSel_on (e := (4, 15, d0)) 1 rfl rfl (hon 4 (by kernel_rfl)) rfl); have e17 : a.tmps[17]? = some (.int .i64 e4) := (by rw [ha]; exact putSel_on (e := (6, 17, .int .i64 e4)) 2 rfl rfl (hon 6 (by kernel_rfl)) rfl); replace ha := yaa ha; have b5 := yaa b2; have a7 := yaa (b3 (hoff 25 (by kernel_rfl))); have HK := yaa Q_HK; have HB := yaa Q_HB; have f2 := yaa (b1 (hon 4 (by kernel_rfl))); have d8 := yaa (a2 (hon 4 (by kernel_rfl))); obtain ⟨c_, hv_⟩ := d8.out
           rw [hv_] at e15
           refine value_ (w1 := w') (v := .pointer (some (a8.add (e4).toNat))) (by rfl) rfl ?_ ?_
           ·
            go_simp
            (try simp only [i64_w])
            try rfl
           refine hK.out _ _ ⟨d0, a8, d1, a9, d3, b0, (.pointer (some (a8.add (e4).toNat))), d5, d6, (by rw [ha.out]; exact yaz 3 hb_ rfl rfl rfl), b2, b3, offA_ (hon 3 (by kernel_rfl)), Q_HK, Q_HB, fun _ h1_ => absurd ((hon 6 (by kernel_rfl)).symm.trans h1_) (by decide), b1, a2, c1, b9, b6, a3, b7, b4, b8, a5, a6, offA_ (hoff 25 (by kernel_rfl)), fun _ => rfl, c3, c6⟩
          refine yax ?_ ?_
          ·
           rintro b a w' ⟨d0, a8, d1, a9, d3, b0, m7_, d5, d6, ha, b2, b3, e3, Q_HK, Q_HB, c2, b1, a2, c1, b9, b6, a3, b7, b4, b8, a5, a6, c0, c7, c3, c6⟩ hb_ hon hoff
           refine ⟨_, rfl, fun K hK => ?_⟩; have e18 : a.tmps[18]? = some (m7_) := (by rw [ha]; exact putSel_on (e := (7, 18, m7_)) 3 rfl rfl (hon 7 (by kernel_rfl)) rfl)
           rw [c7 (hon 7 (by kernel_rfl))] at e18
           replace ha := yaa ha; have b5 := yaa b2; have a7 := yaa (b3 (hoff 25 (by kernel_rfl))); have HK := yaa Q_HK; have HB := yaa Q_HB; have f2 := yaa (b1 (hon 4 (by kernel_rfl))); have d8 := yaa (a2 (hon 4 (by kernel_rfl))); obtain ⟨c_, hv_⟩ := d8.out; have hF_ := f2.out
           rw [hv_] at hF_
           obtain ⟨ad_, ea_, hx_⟩ := Kd.at_int (Kd.R_reads' hF_).2.2 e4 (of_eq_true pi117) (of_eq_true qi117)
           cases ea_
           refine value_ (w1 := w') (v := .int .i64 (rd y112 e4)) (by rfl) rfl ?_ ?_
           ·
            go_simp
            (try simp only [i64_w])
            try rfl
           refine hK.out _ _ ⟨d0, a8, d1, a9, d3, b0, m7_, d5, d6, (by rw [ha.out]; exact yaz 4 hb_ rfl rfl rfl), b2, b3, offA_ (hon 3 (by kernel_rfl)), Q_HK, Q_HB, fun _ h1_ => absurd ((hon 6 (by kernel_rfl)).symm.trans h1_) (by decide), b1, a2, c1, b9, b6, a3, b7, b4, b8, a5, a6, offA_ (hoff 25 (by kernel_rfl)), c7, c3, c6⟩
          refine yax ?_ ?_
          ·
           rintro b a w' ⟨d0, a8, d1, a9, d3, b0, m7_, d5, d6, ha, b2, b3, e3, Q_HK, Q_HB, c2, b1, a2, c1, b9, b6, a3, b7, b4, b8, a5, a6, c0, c7, c3, c6⟩ hb_ hon hoff
           refine ⟨_, rfl, fun K hK => ?_⟩; have e21 : a.tmps[21]? = some (.pointer (some ⟨g, 0, none⟩)) := (by rw [ha]; exact (putSel_off rfl).trans rfl); replace ha := yaa ha; have b5 := yaa b2; have a7 := yaa (b3 (hoff 25 (by kernel_rfl))); have HK := yaa Q_HK; have HB := yaa Q_HB; have HI0 := yaa (c1 (hon 6 (by kernel_rfl)) hb_)
           refine goes_ Try.func14 (by kernel_rfl) rfl #[.pointer (some ⟨g, 0, none⟩), .int .i64 256] (by rfl) rfl rfl (by first | (simp only [List.map_toArray, List.map_cons, List.map_nil, Act.eval, Array.getD_eq_getD_getElem?, Option.getD_some, e21]; done) | (simp only [List.map_toArray, List.map_cons, List.map_nil, Act.eval, Array.getD_eq_getD_getElem?, Option.getD_some, e21]; rfl)) ?_
           with_reducible refine (spec_l20Rd_pick.calls k g s0_0 g9 256 g6 f9 w0 _ ?side1 ?side2 A10.out).mono ?_
           (case side1 => repeat (with_reducible first | exact HI0.out | apply yab | apply yac | apply yae | apply yad | refine yaf ?_ a4.out _))
           (case side2 => repeat (with_reducible first | exact HB.out | apply yar | apply yak | apply yap | refine yal ?_ (Aside0.out ‹_›) | refine yal ?_ (IsS58.ge HI0.out)))
           rintro e w28 ⟨rfl, hi, hb, hk⟩; refine ⟨_, rfl, ?_⟩; have n0_ := yaa (KeepBut.blk hk (upB a7.out) e8.out (by simp))
           have n1_ := yaa (yag (yat (yaq (show IsS58 w0 _ g s0_0 g9 from by repeat (with_reducible first | exact HI0.out | apply yab | apply yac | apply yae | apply yad | refine yaf ?_ a4.out _)) (upR b5.out) (by decide)) hk (fun _ h => h.2)) (fun _ h => h.1))
           have n2_ := yaa (yav (by repeat (with_reducible first | exact HK.out | apply yaj | apply yan | apply yas | apply yao | refine yau ?_ d4.out _)) hk (.inl rfl))
           have n3_ := yaa (hb); have n4_ := yaa (hi)
           have d7 := fun (h0_ : b 4 = true) => (show Kd.R (yba .i64) 3 w28 w.heap.size (fun k_ => some k_ ≠ (.slice (some ad109) y104.length f1 : Value).ownBlock) d0 y112 from by first | exact (yag (yat (yaq (show IsS58 w0 _ g s0_0 g9 from by repeat (with_reducible first | exact HI0.out | apply yab | apply yac | apply yae | apply yad | refine yaf ?_ a4.out _)) (by (with_reducible repeat (first | apply yah | apply yai | apply yam)); exact (b1 h0_)) (by decide)) hk (fun _ h => h.2)) (fun _ h => h.1)) | exact yag (yag (yat (yaq (show IsS58 w0 _ g s0_0 g9 from by repeat (with_reducible first | exact HI0.out | apply yab | apply yac | apply yae | apply yad | refine yaf ?_ a4.out _)) (by (with_reducible repeat (first | apply yah | apply yai | apply yam)); exact (b1 h0_)) (by decide)) hk (fun _ h => h.2)) (fun _ h => h.1)) (fun _ h_ => by first | trivial | exact h_ | exact h_.1))
           clear a7; clear b5; clear HK; clear HB; clear HI0; have a7 := n0_; have b5 := n1_; have HK := n2_; have HB := n3_; have HI0 := n4_; clear n0_ n1_ n2_ n3_ n4_; (try clear hb); (try clear hb2); (try clear hk); (try clear hi)
           refine hK.out _ _ ⟨d0, a8, d1, a9, d3, b0, m7_, d5, d6, (by rw [ha.out]; exact yaz 5 hb_ rfl rfl rfl), (upR b5.out), fun _ => (upB a7.out), offA_ (hon 3 (by kernel_rfl)), (by repeat (with_reducible first | exact HK.out | apply yaj | apply yan | apply yas | apply yao | refine yau ?_ d4.out _)), (by repeat (with_reducible first | exact HB.out | apply yar | apply yak | apply yap | refine yal ?_ (Aside0.out ‹_›) | refine yal ?_ (IsS58.ge HI0.out))), fun _ h1_ => absurd ((hon 6 (by kernel_rfl)).symm.trans h1_) (by decide), d7, a2, fun _ h1_ => absurd ((up_self b 11).symm.trans h1_) (by decide), fun _ _ => (by repeat (with_reducible first | exact HI0.out | apply yab | apply yac | apply yae | apply yad | refine yaf ?_ a4.out _)), offA_ (hoff 12 (by kernel_rfl)), offA_ (hoff 12 (by kernel_rfl)), fun h0_ _ => absurd ((hoff 14 (by kernel_rfl)).symm.trans h0_) (by decide), fun h0_ _ => absurd ((hoff 18 (by kernel_rfl)).symm.trans h0_) (by decide), offA_ (hoff 19 (by kernel_rfl)), offA_ (hoff 19 (by kernel_rfl)), offA_ (hoff 21 (by kernel_rfl)), offA_ (hoff 25 (by kernel_rfl)), c7, offA_ (hoff 15 (by kernel_rfl)), offA_ (hoff 22 (by kernel_rfl))⟩
          refine yax ?_ ?_
          ·
           rintro b a w' ⟨d0, a8, d1, a9, d3, b0, m7_, d5, d6, ha, b2, b3, e3, Q_HK, Q_HB, c2, b1, a2, c1, b9, b6, a3, b7, b4, b8, a5, a6, c0, c7, c3, c6⟩ hb_ hon hoff
           refine ⟨_, rfl, fun K hK => ?_⟩; have e20 : a.tmps[20]? = some (.int .i64 (rd y104 e1)) := (by rw [ha]; exact (putSel_off rfl).trans rfl); have e22 : a.tmps[22]? = some (.int .i64 g6) := (by rw [ha]; exact putSel_on (e := (11, 22, .int .i64 g6)) 5 rfl rfl (hon 11 (by kernel_rfl)) rfl); replace ha := yaa ha; have b5 := yaa b2; have a7 := yaa (b3 (hoff 25 (by kernel_rfl))); have HK := yaa Q_HK; have HB := yaa Q_HB
           refine Kd.R_lit_step (yba .i64) _ 3 ?hg (N := 23) ?hd (xs := ([rd y104 e1, g6] : List Int)) (inner := [.int .i64 (rd y104 e1), .int .i64 g6]) (ok := fun _ => True) (okp := fun _ => True) ?hr ?hp (fun _ hk => hk) trivial (Below.refl _ _) (Nat.le_refl _) (by simp) ?_; (case hd => rfl); (case hg => rfl); (case hr => first | (go_simp; done) | (go_simp; rfl)); (case hp => exact (Reps.one (show Kd.M (yba .i64) _ _ _ (rd y104 e1) [.int .i64 (rd y104 e1)] from rfl) (Reps.one (show Kd.M (yba .i64) _ _ _ g6 [.int .i64 g6] from rfl) (Reps.none _ _))))
           intro d1 w29 g2 hb hg_ hnew_; clear hg_ hnew_
           (first | rw [← Ny120.out] at g2 | (simp only [Int.reduceToNat] at g2; rw [← Ny120.out] at g2))
           have n0_ := yaa (yaw (upR b5.out) (Kd.R_base g2) hb)
           have n1_ := yaa (Kd.R_lower (Kd.R_new' g2 (Kd.R_lt (upR b5.out))) (keep_size (w := w) (g := g) (row := none) (by repeat (with_reducible first | exact HK.out | apply yaj | apply yan | apply yas | apply yao | refine yau ?_ d4.out _))))
           have n3_ := yaa (blk_below (upB a7.out) hb)
           have n4_ := yaa (yav (by repeat (with_reducible first | exact HK.out | apply yaj | apply yan | apply yas | apply yao | refine yau ?_ d4.out _)) (KeepBut.of_below hb g none) (.inl rfl))
           have n5_ := yaa (below_step (by repeat (with_reducible first | exact HB.out | apply yar | apply yak | apply yap | refine yal ?_ (Aside0.out ‹_›))) hb)
           have d7 := fun (h0_ : b 4 = true) => (show Kd.R (yba .i64) 3 w29 w.heap.size (fun k_ => some k_ ≠ (.slice (some ad109) y104.length f1 : Value).ownBlock) d0 y112 from by first | exact (yaw (by (with_reducible repeat (first | apply yah | apply yai | apply yam)); exact (b1 h0_)) (Kd.R_base g2) hb) | exact yag (yaw (by (with_reducible repeat (first | apply yah | apply yai | apply yam)); exact (b1 h0_)) (Kd.R_base g2) hb) (fun _ h_ => by first | trivial | exact h_ | exact h_.1))
           have f7 := fun (h0_ : b 11 = true) (h1_ : b 14 = false) => (show IsS58 w0 w29 g s0_0 f9 from by first | exact (yay (by repeat (first | (with_reducible first | exact (b9 h0_ h1_) | apply yab | apply yac | apply yae | apply yad | refine yaf ?_ a4.out _) | exact (b9 h0_ h1_))) hb))
           have f8 := fun (h0_ : b 14 = true) (h1_ : b 18 = false) => (show IsS58 w0 w29 g s0_0 g0 from by first | exact (yay (by repeat (first | (with_reducible first | exact (b7 h0_ h1_) | apply yab | apply yac | apply yae | apply yad | refine yaf ?_ a4.out _) | exact (b7 h0_ h1_))) hb))
           have e9 := fun (h0_ : b 18 = true) (h1_ : b 21 = false) => (show IsS58 w0 w29 g s0_0 f6 from by first | exact (yay (by repeat (first | (with_reducible first | exact (b4 h0_ h1_) | apply yab | apply yac | apply yae | apply yad | refine yaf ?_ a4.out _) | exact (b4 h0_ h1_))) hb))
           have f5 := fun (h0_ : b 19 = true) => (show Kd.R (yba .i64) 3 w29 w.heap.size (fun k_ => some k_ ≠ (.slice (some ad109) y104.length f1 : Value).ownBlock) d3 y128 from by first | exact (yaw (by (with_reducible repeat (first | apply yah | apply yai | apply yam)); exact (b8 h0_)) (Kd.R_base g2) hb) | exact yag (yaw (by (with_reducible repeat (first | apply yah | apply yai | apply yam)); exact (b8 h0_)) (Kd.R_base g2) hb) (fun _ h_ => by first | trivial | exact h_ | exact h_.1))
           have f0 := fun (h0_ : b 21 = true) => (show IsS58 w0 w29 g s0_0 h4 from by first | exact (yay (by repeat (first | (with_reducible first | exact (a6 h0_) | apply yab | apply yac | apply yae | apply yad | refine yaf ?_ a4.out _) | exact (a6 h0_))) hb))
           clear b5; clear a7; clear HK; clear HB; have b5 := n0_; have f3 := n1_; have a7 := n3_; have HK := n4_; have HB := n5_; clear n0_ n1_ n3_ n4_ n5_; clear hb g2; obtain ⟨l0, i9, j0⟩ := Kd.R_slice f3.out; subst j0; obtain ⟨ado31, fo31, _⟩ := Kd.at_int (Kd.R_reads' f3.out).2.2 0 (by decide) (by rw [Ny120.out]; simp)
           cases fo31
           refine hK.out _ _ ⟨d0, a8, .slice (some ado31) y120.length i9, ado31, d3, b0, m7_, d5, d6, (by rw [ha.out]; exact yaz 6 hb_ rfl rfl rfl), (by (with_reducible repeat (first | apply yah | apply yai | apply yam)); exact yag b5.out (fun _ hk => by first | exact hk.2 | exact True.intro)), fun _ => (upB a7.out), offA_ (hon 3 (by kernel_rfl)), (by repeat (with_reducible first | exact HK.out | apply yaj | apply yan | apply yas | apply yao | refine yau ?_ d4.out _)), (by repeat (with_reducible first | exact HB.out | apply yar | apply yak | apply yap | refine yal ?_ (Aside0.out ‹_›))), fun _ h1_ => absurd ((hon 6 (by kernel_rfl)).symm.trans h1_) (by decide), d7, a2, fun _ h1_ => absurd ((hon 11 (by kernel_rfl)).symm.trans h1_) (by decide), f7, fun _ => (by (with_reducible repeat (first | apply yah | apply yai | apply yam)); exact yag f3.out (fun _ hk => by first | exact hk.2 | exact True.intro)), fun _ => ⟨_, rfl⟩, f8, e9, f5, a5, f0, offA_ (hoff 25 (by kernel_rfl)), c7, offA_ (hoff 15 (by kernel_rfl)), c6⟩
          refine yax ?_ ?_
          ·
           rintro b a w' ⟨d0, a8, d1, a9, d3, b0, m7_, d5, d6, ha, b2, b3, e3, Q_HK, Q_HB, c2, b1, a2, c1, b9, b6, a3, b7, b4, b8, a5, a6, c0, c7, c3, c6⟩ hb_ hon hoff
           refine ⟨_, rfl, fun K hK => ?_⟩; have e24 : a.tmps[24]? = some (.pointer (some ⟨g, 0, none⟩)) := (by rw [ha]; exact (putSel_off rfl).trans rfl); replace ha := yaa ha; have b5 := yaa b2; have a7 := yaa (b3 (hoff 25 (by kernel_rfl))); have HK := yaa Q_HK; have HB := yaa Q_HB; have HI0 := yaa (b9 (hon 11 (by kernel_rfl)) hb_)
           refine goes_ Try.func14 (by kernel_rfl) rfl #[.pointer (some ⟨g, 0, none⟩), .int .i64 2] (by rfl) rfl rfl (by first | (simp only [List.map_toArray, List.map_cons, List.map_nil, Act.eval, Array.getD_eq_getD_getElem?, Option.getD_some, e24]; done) | (simp only [List.map_toArray, List.map_cons, List.map_nil, Act.eval, Array.getD_eq_getD_getElem?, Option.getD_some, e24]; rfl)) ?_
           with_reducible refine (spec_l20Rd_pick.calls k g s0_0 f9 2 e5 g0 w0 _ ?side1 ?side2 A11.out).mono ?_
           (case side1 => repeat (with_reducible first | exact HI0.out | apply yab | apply yac | apply yae | apply yad | refine yaf ?_ a4.out _))
           (case side2 => repeat (with_reducible first | exact HB.out | apply yar | apply yak | apply yap | refine yal ?_ (Aside0.out ‹_›) | refine yal ?_ (IsS58.ge HI0.out)))
           rintro e w29 ⟨rfl, hi, hb, hk⟩; refine ⟨_, rfl, ?_⟩; have n0_ := yaa (KeepBut.blk hk (upB a7.out) e8.out (by simp))
           have n1_ := yaa (yag (yat (yaq (show IsS58 w0 _ g s0_0 f9 from by repeat (with_reducible first | exact HI0.out | apply yab | apply yac | apply yae | apply yad | refine yaf ?_ a4.out _)) (upR b5.out) (by decide)) hk (fun _ h => h.2)) (fun _ h => h.1))
           have n2_ := yaa (yav (by repeat (with_reducible first | exact HK.out | apply yaj | apply yan | apply yas | apply yao | refine yau ?_ d4.out _)) hk (.inl rfl))
           have n3_ := yaa (hb); have n4_ := yaa (hi)
           have d7 := fun (h0_ : b 4 = true) => (show Kd.R (yba .i64) 3 w29 w.heap.size (fun k_ => some k_ ≠ (.slice (some ad109) y104.length f1 : Value).ownBlock) d0 y112 from by first | exact (yag (yat (yaq (show IsS58 w0 _ g s0_0 f9 from by repeat (with_reducible first | exact HI0.out | apply yab | apply yac | apply yae | apply yad | refine yaf ?_ a4.out _)) (by (with_reducible repeat (first | apply yah | apply yai | apply yam)); exact (b1 h0_)) (by decide)) hk (fun _ h => h.2)) (fun _ h => h.1)) | exact yag (yag (yat (yaq (show IsS58 w0 _ g s0_0 f9 from by repeat (with_reducible first | exact HI0.out | apply yab | apply yac | apply yae | apply yad | refine yaf ?_ a4.out _)) (by (with_reducible repeat (first | apply yah | apply yai | apply yam)); exact (b1 h0_)) (by decide)) hk (fun _ h => h.2)) (fun _ h => h.1)) (fun _ h_ => by first | trivial | exact h_ | exact h_.1))
           have e7 := fun (h0_ : b 12 = true) => (show Kd.R (yba .i64) 3 w29 w.heap.size (fun k_ => some k_ ≠ (.slice (some ad109) y104.length f1 : Value).ownBlock) d1 y120 from by first | exact (yag (yat (yaq (show IsS58 w0 _ g s0_0 f9 from by repeat (with_reducible first | exact HI0.out | apply yab | apply yac | apply yae | apply yad | refine yaf ?_ a4.out _)) (by (with_reducible repeat (first | apply yah | apply yai | apply yam)); exact (b6 h0_)) (by decide)) hk (fun _ h => h.2)) (fun _ h => h.1)) | exact yag (yag (yat (yaq (show IsS58 w0 _ g s0_0 f9 from by repeat (with_reducible first | exact HI0.out | apply yab | apply yac | apply yae | apply yad | refine yaf ?_ a4.out _)) (by (with_reducible repeat (first | apply yah | apply yai | apply yam)); exact (b6 h0_)) (by decide)) hk (fun _ h => h.2)) (fun _ h => h.1)) (fun _ h_ => by first | trivial | exact h_ | exact h_.1))
           clear a7; clear b5; clear HK; clear HB; clear HI0; have a7 := n0_; have b5 := n1_; have HK := n2_; have HB := n3_; have HI0 := n4_; clear n0_ n1_ n2_ n3_ n4_; (try clear hb); (try clear hb2); (try clear hk); (try clear hi)
           refine hK.out _ _ ⟨d0, a8, d1, a9, d3, b0, m7_, d5, d6, (by rw [ha.out]; exact yaz 7 hb_ rfl rfl rfl), (upR b5.out), fun _ => (upB a7.out), offA_ (hon 3 (by kernel_rfl)), (by repeat (with_reducible first | exact HK.out | apply yaj | apply yan | apply yas | apply yao | refine yau ?_ d4.out _)), (by repeat (with_reducible first | exact HB.out | apply yar | apply yak | apply yap | refine yal ?_ (Aside0.out ‹_›) | refine yal ?_ (IsS58.ge HI0.out))), fun _ h1_ => absurd ((hon 6 (by kernel_rfl)).symm.trans h1_) (by decide), d7, a2, fun _ h1_ => absurd ((hon 11 (by kernel_rfl)).symm.trans h1_) (by decide), fun _ h1_ => absurd ((up_self b 14).symm.trans h1_) (by decide), e7, a3, fun _ _ => (by repeat (with_reducible first | exact HI0.out | apply yab | apply yac | apply yae | apply yad | refine yaf ?_ a4.out _)), fun h0_ _ => absurd ((hoff 18 (by kernel_rfl)).symm.trans h0_) (by decide), offA_ (hoff 19 (by kernel_rfl)), offA_ (hoff 19 (by kernel_rfl)), offA_ (hoff 21 (by kernel_rfl)), offA_ (hoff 25 (by kernel_rfl)), c7, offA_ (hoff 15 (by kernel_rfl)), offA_ (hoff 22 (by kernel_rfl))⟩
          refine yax ?_ ?_
          ·
           rintro b a w' ⟨d0, a8, d1, a9, d3, b0, m7_, d5, d6, ha, b2, b3, e3, Q_HK, Q_HB, c2, b1, a2, c1, b9, b6, a3, b7, b4, b8, a5, a6, c0, c7, c3, c6⟩ hb_ hon hoff
           refine ⟨_, rfl, fun K hK => ?_⟩; have e23 : a.tmps[23]? = some (d1) := (by rw [ha]; exact putSel_on (e := (12, 23, d1)) 6 rfl rfl (hon 12 (by kernel_rfl)) rfl); have e25 : a.tmps[25]? = some (.int .i64 e5) := (by rw [ha]; exact putSel_on (e := (14, 25, .int .i64 e5)) 7 rfl rfl (hon 14 (by kernel_rfl)) rfl); replace ha := yaa ha; have b5 := yaa b2; have a7 := yaa (b3 (hoff 25 (by kernel_rfl))); have HK := yaa Q_HK; have HB := yaa Q_HB; have f3 := yaa (b6 (hon 12 (by kernel_rfl))); have d9 := yaa (a3 (hon 12 (by kernel_rfl))); obtain ⟨c_, hv_⟩ := d9.out
           rw [hv_] at e23
           refine value_ (w1 := w') (v := .pointer (some (a9.add (e5).toNat))) (by rfl) rfl ?_ ?_
           ·
            go_simp
            (try simp only [i64_w])
            try rfl
           refine hK.out _ _ ⟨d0, a8, d1, a9, d3, b0, m7_, (.pointer (some (a9.add (e5).toNat))), d6, (by rw [ha.out]; exact yaz 8 hb_ rfl rfl rfl), b2, b3, offA_ (hon 3 (by kernel_rfl)), Q_HK, Q_HB, fun _ h1_ => absurd ((hon 6 (by kernel_rfl)).symm.trans h1_) (by decide), b1, a2, fun _ h1_ => absurd ((hon 11 (by kernel_rfl)).symm.trans h1_) (by decide), fun _ h1_ => absurd ((hon 14 (by kernel_rfl)).symm.trans h1_) (by decide), b6, a3, b7, b4, b8, a5, a6, offA_ (hoff 25 (by kernel_rfl)), c7, fun _ => rfl, c6⟩
          refine yax ?_ ?_
          ·
           rintro b a w' ⟨d0, a8, d1, a9, d3, b0, m7_, d5, d6, ha, b2, b3, e3, Q_HK, Q_HB, c2, b1, a2, c1, b9, b6, a3, b7, b4, b8, a5, a6, c0, c7, c3, c6⟩ hb_ hon hoff
           refine ⟨_, rfl, fun K hK => ?_⟩; have e26 : a.tmps[26]? = some (d5) := (by rw [ha]; exact putSel_on (e := (15, 26, d5)) 8 rfl rfl (hon 15 (by kernel_rfl)) rfl)
           rw [c3 (hon 15 (by kernel_rfl))] at e26
           replace ha := yaa ha; have b5 := yaa b2; have a7 := yaa (b3 (hoff 25 (by kernel_rfl))); have HK := yaa Q_HK; have HB := yaa Q_HB; have f3 := yaa (b6 (hon 12 (by kernel_rfl))); have d9 := yaa (a3 (hon 12 (by kernel_rfl))); obtain ⟨c_, hv_⟩ := d9.out; have hF_ := f3.out
           rw [hv_] at hF_
           obtain ⟨ad_, ea_, hx_⟩ := Kd.at_int (Kd.R_reads' hF_).2.2 e5 (of_eq_true pi125) (of_eq_true qi125)
           cases ea_
           refine value_ (w1 := w') (v := .int .i64 (rd y120 e5)) (by rfl) rfl ?_ ?_
           ·
            go_simp
            (try simp only [i64_w])
            try rfl
           refine hK.out _ _ ⟨d0, a8, d1, a9, d3, b0, m7_, d5, d6, (by rw [ha.out]; exact yaz 9 hb_ rfl rfl rfl), b2, b3, offA_ (hon 3 (by kernel_rfl)), Q_HK, Q_HB, fun _ h1_ => absurd ((hon 6 (by kernel_rfl)).symm.trans h1_) (by decide), b1, a2, fun _ h1_ => absurd ((hon 11 (by kernel_rfl)).symm.trans h1_) (by decide), fun _ h1_ => absurd ((hon 14 (by kernel_rfl)).symm.trans h1_) (by decide), b6, a3, b7, b4, b8, a5, a6, offA_ (hoff 25 (by kernel_rfl)), c7, c3, c6⟩
          refine yax ?_ ?_
          ·
           rintro b a w' ⟨d0, a8, d1, a9, d3, b0, m7_, d5, d6, ha, b2, b3, e3, Q_HK, Q_HB, c2, b1, a2, c1, b9, b6, a3, b7, b4, b8, a5, a6, c0, c7, c3, c6⟩ hb_ hon hoff
           refine ⟨_, rfl, fun K hK => ?_⟩; have e28 : a.tmps[28]? = some (.pointer (some ⟨g, 0, none⟩)) := (by rw [ha]; exact (putSel_off rfl).trans rfl); replace ha := yaa ha; have b5 := yaa b2; have a7 := yaa (b3 (hoff 25 (by kernel_rfl))); have HK := yaa Q_HK; have HB := yaa Q_HB; have HI0 := yaa (b7 (hon 14 (by kernel_rfl)) hb_)
           refine goes_ Try.func14 (by kernel_rfl) rfl #[.pointer (some ⟨g, 0, none⟩), .int .i64 256] (by rfl) rfl rfl (by first | (simp only [List.map_toArray, List.map_cons, List.map_nil, Act.eval, Array.getD_eq_getD_getElem?, Option.getD_some, e28]; done) | (simp only [List.map_toArray, List.map_cons, List.map_nil, Act.eval, Array.getD_eq_getD_getElem?, Option.getD_some, e28]; rfl)) ?_
           with_reducible refine (spec_l20Rd_pick.calls k g s0_0 g0 256 g7 f6 w0 _ ?side1 ?side2 A14.out).mono ?_
           (case side1 => repeat (with_reducible first | exact HI0.out | apply yab | apply yac | apply yae | apply yad | refine yaf ?_ a4.out _))
           (case side2 => repeat (with_reducible first | exact HB.out | apply yar | apply yak | apply yap | refine yal ?_ (Aside0.out ‹_›) | refine yal ?_ (IsS58.ge HI0.out)))
           rintro e w30 ⟨rfl, hi, hb, hk⟩; refine ⟨_, rfl, ?_⟩; have n0_ := yaa (KeepBut.blk hk (upB a7.out) e8.out (by simp))
           have n1_ := yaa (yag (yat (yaq (show IsS58 w0 _ g s0_0 g0 from by repeat (with_reducible first | exact HI0.out | apply yab | apply yac | apply yae | apply yad | refine yaf ?_ a4.out _)) (upR b5.out) (by decide)) hk (fun _ h => h.2)) (fun _ h => h.1))
           have n2_ := yaa (yav (by repeat (with_reducible first | exact HK.out | apply yaj | apply yan | apply yas | apply yao | refine yau ?_ d4.out _)) hk (.inl rfl))
           have n3_ := yaa (hb); have n4_ := yaa (hi)
           have d7 := fun (h0_ : b 4 = true) => (show Kd.R (yba .i64) 3 w30 w.heap.size (fun k_ => some k_ ≠ (.slice (some ad109) y104.length f1 : Value).ownBlock) d0 y112 from by first | exact (yag (yat (yaq (show IsS58 w0 _ g s0_0 g0 from by repeat (with_reducible first | exact HI0.out | apply yab | apply yac | apply yae | apply yad | refine yaf ?_ a4.out _)) (by (with_reducible repeat (first | apply yah | apply yai | apply yam)); exact (b1 h0_)) (by decide)) hk (fun _ h => h.2)) (fun _ h => h.1)) | exact yag (yag (yat (yaq (show IsS58 w0 _ g s0_0 g0 from by repeat (with_reducible first | exact HI0.out | apply yab | apply yac | apply yae | apply yad | refine yaf ?_ a4.out _)) (by (with_reducible repeat (first | apply yah | apply yai | apply yam)); exact (b1 h0_)) (by decide)) hk (fun _ h => h.2)) (fun _ h => h.1)) (fun _ h_ => by first | trivial | exact h_ | exact h_.1))
           have e7 := fun (h0_ : b 12 = true) => (show Kd.R (yba .i64) 3 w30 w.heap.size (fun k_ => some k_ ≠ (.slice (some ad109) y104.length f1 : Value).ownBlock) d1 y120 from by first | exact (yag (yat (yaq (show IsS58 w0 _ g s0_0 g0 from by repeat (with_reducible first | exact HI0.out | apply yab | apply yac | apply yae | apply yad | refine yaf ?_ a4.out _)) (by (with_reducible repeat (first | apply yah | apply yai | apply yam)); exact (b6 h0_)) (by decide)) hk (fun _ h => h.2)) (fun _ h => h.1)) | exact yag (yag (yat (yaq (show IsS58 w0 _ g s0_0 g0 from by repeat (with_reducible first | exact HI0.out | apply yab | apply yac | apply yae | apply yad | refine yaf ?_ a4.out _)) (by (with_reducible repeat (first | apply yah | apply yai | apply yam)); exact (b6 h0_)) (by decide)) hk (fun _ h => h.2)) (fun _ h => h.1)) (fun _ h_ => by first | trivial | exact h_ | exact h_.1))
           clear a7; clear b5; clear HK; clear HB; clear HI0; have a7 := n0_; have b5 := n1_; have HK := n2_; have HB := n3_; have HI0 := n4_; clear n0_ n1_ n2_ n3_ n4_; (try clear hb); (try clear hb2); (try clear hk); (try clear hi)
           refine hK.out _ _ ⟨d0, a8, d1, a9, d3, b0, m7_, d5, d6, (by rw [ha.out]; exact yaz 10 hb_ rfl rfl rfl), (upR b5.out), fun _ => (upB a7.out), offA_ (hon 3 (by kernel_rfl)), (by repeat (with_reducible first | exact HK.out | apply yaj | apply yan | apply yas | apply yao | refine yau ?_ d4.out _)), (by repeat (with_reducible first | exact HB.out | apply yar | apply yak | apply yap | refine yal ?_ (Aside0.out ‹_›) | refine yal ?_ (IsS58.ge HI0.out))), fun _ h1_ => absurd ((hon 6 (by kernel_rfl)).symm.trans h1_) (by decide), d7, a2, fun _ h1_ => absurd ((hon 11 (by kernel_rfl)).symm.trans h1_) (by decide), fun _ h1_ => absurd ((hon 14 (by kernel_rfl)).symm.trans h1_) (by decide), e7, a3, fun _ h1_ => absurd ((up_self b 18).symm.trans h1_) (by decide), fun _ _ => (by repeat (with_reducible first | exact HI0.out | apply yab | apply yac | apply yae | apply yad | refine yaf ?_ a4.out _)), offA_ (hoff 19 (by kernel_rfl)), offA_ (hoff 19 (by kernel_rfl)), offA_ (hoff 21 (by kernel_rfl)), offA_ (hoff 25 (by kernel_rfl)), c7, c3, offA_ (hoff 22 (by kernel_rfl))⟩
          refine yax ?_ ?_
          ·
           rintro b a w' ⟨d0, a8, d1, a9, d3, b0, m7_, d5, d6, ha, b2, b3, e3, Q_HK, Q_HB, c2, b1, a2, c1, b9, b6, a3, b7, b4, b8, a5, a6, c0, c7, c3, c6⟩ hb_ hon hoff
           refine ⟨_, rfl, fun K hK => ?_⟩; have e29 : a.tmps[29]? = some (.int .i64 g7) := (by rw [ha]; exact putSel_on (e := (18, 29, .int .i64 g7)) 10 rfl rfl (hon 18 (by kernel_rfl)) rfl); replace ha := yaa ha; have b5 := yaa b2; have a7 := yaa (b3 (hoff 25 (by kernel_rfl))); have HK := yaa Q_HK; have HB := yaa Q_HB
           refine Kd.R_lit_step (yba .i64) _ 3 ?hg (N := 30) ?hd (xs := ([255, 255, 0, g7] : List Int)) (inner := [.int .i64 255, .int .i64 255, .int .i64 0, .int .i64 g7]) (ok := fun _ => True) (okp := fun _ => True) ?hr ?hp (fun _ hk => hk) trivial (Below.refl _ _) (Nat.le_refl _) (by simp) ?_; (case hd => rfl); (case hg => rfl); (case hr => first | (go_simp; done) | (go_simp; rfl)); (case hp => exact (Reps.one (show Kd.M (yba .i64) _ _ _ 255 [.int .i64 255] from rfl) (Reps.one (show Kd.M (yba .i64) _ _ _ 255 [.int .i64 255] from rfl) (Reps.one (show Kd.M (yba .i64) _ _ _ 0 [.int .i64 0] from rfl) (Reps.one (show Kd.M (yba .i64) _ _ _ g7 [.int .i64 g7] from rfl) (Reps.none _ _))))))
           intro d3 w31 g3 hb hg_ hnew_; clear hg_ hnew_
           (first | rw [← Ny128.out] at g3 | (simp only [Int.reduceToNat] at g3; rw [← Ny128.out] at g3))
           have n0_ := yaa (yaw (upR b5.out) (Kd.R_base g3) hb)
           have n1_ := yaa (Kd.R_lower (Kd.R_new' g3 (Kd.R_lt (upR b5.out))) (keep_size (w := w) (g := g) (row := none) (by repeat (with_reducible first | exact HK.out | apply yaj | apply yan | apply yas | apply yao | refine yau ?_ d4.out _))))
           have n3_ := yaa (blk_below (upB a7.out) hb)
           have n4_ := yaa (yav (by repeat (with_reducible first | exact HK.out | apply yaj | apply yan | apply yas | apply yao | refine yau ?_ d4.out _)) (KeepBut.of_below hb g none) (.inl rfl))
           have n5_ := yaa (below_step (by repeat (with_reducible first | exact HB.out | apply yar | apply yak | apply yap | refine yal ?_ (Aside0.out ‹_›))) hb)
           have d7 := fun (h0_ : b 4 = true) => (show Kd.R (yba .i64) 3 w31 w.heap.size (fun k_ => some k_ ≠ (.slice (some ad109) y104.length f1 : Value).ownBlock) d0 y112 from by first | exact (yaw (by (with_reducible repeat (first | apply yah | apply yai | apply yam)); exact (b1 h0_)) (Kd.R_base g3) hb) | exact yag (yaw (by (with_reducible repeat (first | apply yah | apply yai | apply yam)); exact (b1 h0_)) (Kd.R_base g3) hb) (fun _ h_ => by first | trivial | exact h_ | exact h_.1))
           have e7 := fun (h0_ : b 12 = true) => (show Kd.R (yba .i64) 3 w31 w.heap.size (fun k_ => some k_ ≠ (.slice (some ad109) y104.length f1 : Value).ownBlock) d1 y120 from by first | exact (yaw (by (with_reducible repeat (first | apply yah | apply yai | apply yam)); exact (b6 h0_)) (Kd.R_base g3) hb) | exact yag (yaw (by (with_reducible repeat (first | apply yah | apply yai | apply yam)); exact (b6 h0_)) (Kd.R_base g3) hb) (fun _ h_ => by first | trivial | exact h_ | exact h_.1))
           have e9 := fun (h0_ : b 18 = true) (h1_ : b 21 = false) => (show IsS58 w0 w31 g s0_0 f6 from by first | exact (yay (by repeat (first | (with_reducible first | exact (b4 h0_ h1_) | apply yab | apply yac | apply yae | apply yad | refine yaf ?_ a4.out _) | exact (b4 h0_ h1_))) hb))
           have f0 := fun (h0_ : b 21 = true) => (show IsS58 w0 w31 g s0_0 h4 from by first | exact (yay (by repeat (first | (with_reducible first | exact (a6 h0_) | apply yab | apply yac | apply yae | apply yad | refine yaf ?_ a4.out _) | exact (a6 h0_))) hb))
           clear b5; clear a7; clear HK; clear HB; have b5 := n0_; have f4 := n1_; have a7 := n3_; have HK := n4_; have HB := n5_; clear n0_ n1_ n3_ n4_ n5_; clear hb g3; obtain ⟨l1, j1, j2⟩ := Kd.R_slice f4.out; subst j2; obtain ⟨ado33, fo33, _⟩ := Kd.at_int (Kd.R_reads' f4.out).2.2 0 (by decide) (by rw [Ny128.out]; simp)
           cases fo33
           refine hK.out _ _ ⟨d0, a8, d1, a9, .slice (some ado33) y128.length j1, ado33, m7_, d5, d6, (by rw [ha.out]; exact yaz 11 hb_ rfl rfl rfl), (by (with_reducible repeat (first | apply yah | apply yai | apply yam)); exact yag b5.out (fun _ hk => by first | exact hk.2 | exact True.intro)), fun _ => (upB a7.out), offA_ (hon 3 (by kernel_rfl)), (by repeat (with_reducible first | exact HK.out | apply yaj | apply yan | apply yas | apply yao | refine yau ?_ d4.out _)), (by repeat (with_reducible first | exact HB.out | apply yar | apply yak | apply yap | refine yal ?_ (Aside0.out ‹_›))), fun _ h1_ => absurd ((hon 6 (by kernel_rfl)).symm.trans h1_) (by decide), d7, a2, fun _ h1_ => absurd ((hon 11 (by kernel_rfl)).symm.trans h1_) (by decide), fun _ h1_ => absurd ((hon 14 (by kernel_rfl)).symm.trans h1_) (by decide), e7, a3, fun _ h1_ => absurd ((hon 18 (by kernel_rfl)).symm.trans h1_) (by decide), e9, fun _ => (by (with_reducible repeat (first | apply yah | apply yai | apply yam)); exact yag f4.out (fun _ hk => by first | exact hk.2 | exact True.intro)), fun _ => ⟨_, rfl⟩, f0, offA_ (hoff 25 (by kernel_rfl)), c7, c3, offA_ (hoff 22 (by kernel_rfl))⟩
          refine yax ?_ ?_
          ·
           rintro b a w' ⟨d0, a8, d1, a9, d3, b0, m7_, d5, d6, ha, b2, b3, e3, Q_HK, Q_HB, c2, b1, a2, c1, b9, b6, a3, b7, b4, b8, a5, a6, c0, c7, c3, c6⟩ hb_ hon hoff
           refine ⟨_, rfl, fun K hK => ?_⟩; have e31 : a.tmps[31]? = some (.pointer (some ⟨g, 0, none⟩)) := (by rw [ha]; exact (putSel_off rfl).trans rfl); replace ha := yaa ha; have b5 := yaa b2; have a7 := yaa (b3 (hoff 25 (by kernel_rfl))); have HK := yaa Q_HK; have HB := yaa Q_HB; have HI0 := yaa (b4 (hon 18 (by kernel_rfl)) hb_)
           refine goes_ Try.func14 (by kernel_rfl) rfl #[.pointer (some ⟨g, 0, none⟩), .int .i64 4] (by rfl) rfl rfl (by first | (simp only [List.map_toArray, List.map_cons, List.map_nil, Act.eval, Array.getD_eq_getD_getElem?, Option.getD_some, e31]; done) | (simp only [List.map_toArray, List.map_cons, List.map_nil, Act.eval, Array.getD_eq_getD_getElem?, Option.getD_some, e31]; rfl)) ?_
           with_reducible refine (spec_l20Rd_pick.calls k g s0_0 f6 4 e6 h4 w0 _ ?side1 ?side2 A15.out).mono ?_
           (case side1 => repeat (with_reducible first | exact HI0.out | apply yab | apply yac | apply yae | apply yad | refine yaf ?_ a4.out _))
           (case side2 => repeat (with_reducible first | exact HB.out | apply yar | apply yak | apply yap | refine yal ?_ (Aside0.out ‹_›) | refine yal ?_ (IsS58.ge HI0.out)))
           rintro e w31 ⟨rfl, hi, hb, hk⟩; refine ⟨_, rfl, ?_⟩; have n0_ := yaa (KeepBut.blk hk (upB a7.out) e8.out (by simp))
           have n1_ := yaa (yag (yat (yaq (show IsS58 w0 _ g s0_0 f6 from by repeat (with_reducible first | exact HI0.out | apply yab | apply yac | apply yae | apply yad | refine yaf ?_ a4.out _)) (upR b5.out) (by decide)) hk (fun _ h => h.2)) (fun _ h => h.1))
           have n2_ := yaa (yav (by repeat (with_reducible first | exact HK.out | apply yaj | apply yan | apply yas | apply yao | refine yau ?_ d4.out _)) hk (.inl rfl))
           have n3_ := yaa (hb); have n4_ := yaa (hi)
           have d7 := fun (h0_ : b 4 = true) => (show Kd.R (yba .i64) 3 w31 w.heap.size (fun k_ => some k_ ≠ (.slice (some ad109) y104.length f1 : Value).ownBlock) d0 y112 from by first | exact (yag (yat (yaq (show IsS58 w0 _ g s0_0 f6 from by repeat (with_reducible first | exact HI0.out | apply yab | apply yac | apply yae | apply yad | refine yaf ?_ a4.out _)) (by (with_reducible repeat (first | apply yah | apply yai | apply yam)); exact (b1 h0_)) (by decide)) hk (fun _ h => h.2)) (fun _ h => h.1)) | exact yag (yag (yat (yaq (show IsS58 w0 _ g s0_0 f6 from by repeat (with_reducible first | exact HI0.out | apply yab | apply yac | apply yae | apply yad | refine yaf ?_ a4.out _)) (by (with_reducible repeat (first | apply yah | apply yai | apply yam)); exact (b1 h0_)) (by decide)) hk (fun _ h => h.2)) (fun _ h => h.1)) (fun _ h_ => by first | trivial | exact h_ | exact h_.1))
           have e7 := fun (h0_ : b 12 = true) => (show Kd.R (yba .i64) 3 w31 w.heap.size (fun k_ => some k_ ≠ (.slice (some ad109) y104.length f1 : Value).ownBlock) d1 y120 from by first | exact (yag (yat (yaq (show IsS58 w0 _ g s0_0 f6 from by repeat (with_reducible first | exact HI0.out | apply yab | apply yac | apply yae | apply yad | refine yaf ?_ a4.out _)) (by (with_reducible repeat (first | apply yah | apply yai | apply yam)); exact (b6 h0_)) (by decide)) hk (fun _ h => h.2)) (fun _ h => h.1)) | exact yag (yag (yat (yaq (show IsS58 w0 _ g s0_0 f6 from by repeat (with_reducible first | exact HI0.out | apply yab | apply yac | apply yae | apply yad | refine yaf ?_ a4.out _)) (by (with_reducible repeat (first | apply yah | apply yai | apply yam)); exact (b6 h0_)) (by decide)) hk (fun _ h => h.2)) (fun _ h => h.1)) (fun _ h_ => by first | trivial | exact h_ | exact h_.1))
           have f5 := fun (h0_ : b 19 = true) => (show Kd.R (yba .i64) 3 w31 w.heap.size (fun k_ => some k_ ≠ (.slice (some ad109) y104.length f1 : Value).ownBlock) d3 y128 from by first | exact (yag (yat (yaq (show IsS58 w0 _ g s0_0 f6 from by repeat (with_reducible first | exact HI0.out | apply yab | apply yac | apply yae | apply yad | refine yaf ?_ a4.out _)) (by (with_reducible repeat (first | apply yah | apply yai | apply yam)); exact (b8 h0_)) (by decide)) hk (fun _ h => h.2)) (fun _ h => h.1)) | exact yag (yag (yat (yaq (show IsS58 w0 _ g s0_0 f6 from by repeat (with_reducible first | exact HI0.out | apply yab | apply yac | apply yae | apply yad | refine yaf ?_ a4.out _)) (by (with_reducible repeat (first | apply yah | apply yai | apply yam)); exact (b8 h0_)) (by decide)) hk (fun _ h => h.2)) (fun _ h => h.1)) (fun _ h_ => by first | trivial | exact h_ | exact h_.1))
           clear a7; clear b5; clear HK; clear HB; clear HI0; have a7 := n0_; have b5 := n1_; have HK := n2_; have HB := n3_; have HI0 := n4_; clear n0_ n1_ n2_ n3_ n4_; (try clear hb); (try clear hb2); (try clear hk); (try clear hi)
           refine hK.out _ _ ⟨d0, a8, d1, a9, d3, b0, m7_, d5, d6, (by rw [ha.out]; exact yaz 12 hb_ rfl rfl rfl), (upR b5.out), fun _ => (upB a7.out), offA_ (hon 3 (by kernel_rfl)), (by repeat (with_reducible first | exact HK.out | apply yaj | apply yan | apply yas | apply yao | refine yau ?_ d4.out _)), (by repeat (with_reducible first | exact HB.out | apply yar | apply yak | apply yap | refine yal ?_ (Aside0.out ‹_›) | refine yal ?_ (IsS58.ge HI0.out))), fun _ h1_ => absurd ((hon 6 (by kernel_rfl)).symm.trans h1_) (by decide), d7, a2, fun _ h1_ => absurd ((hon 11 (by kernel_rfl)).symm.trans h1_) (by decide), fun _ h1_ => absurd ((hon 14 (by kernel_rfl)).symm.trans h1_) (by decide), e7, a3, fun _ h1_ => absurd ((hon 18 (by kernel_rfl)).symm.trans h1_) (by decide), fun _ h1_ => absurd ((up_self b 21).symm.trans h1_) (by decide), f5, a5, fun _ => (by repeat (with_reducible first | exact HI0.out | apply yab | apply yac | apply yae | apply yad | refine yaf ?_ a4.out _)), offA_ (hoff 25 (by kernel_rfl)), c7, c3, offA_ (hoff 22 (by kernel_rfl))⟩
          refine yax ?_ ?_
          ·
           rintro b a w' ⟨d0, a8, d1, a9, d3, b0, m7_, d5, d6, ha, b2, b3, e3, Q_HK, Q_HB, c2, b1, a2, c1, b9, b6, a3, b7, b4, b8, a5, a6, c0, c7, c3, c6⟩ hb_ hon hoff
           refine ⟨_, rfl, fun K hK => ?_⟩; have e30 : a.tmps[30]? = some (d3) := (by rw [ha]; exact putSel_on (e := (19, 30, d3)) 11 rfl rfl (hon 19 (by kernel_rfl)) rfl); have e32 : a.tmps[32]? = some (.int .i64 e6) := (by rw [ha]; exact putSel_on (e := (21, 32, .int .i64 e6)) 12 rfl rfl (hon 21 (by kernel_rfl)) rfl); replace ha := yaa ha; have b5 := yaa b2; have a7 := yaa (b3 (hoff 25 (by kernel_rfl))); have HK := yaa Q_HK; have HB := yaa Q_HB; have f4 := yaa (b8 (hon 19 (by kernel_rfl))); have e0 := yaa (a5 (hon 19 (by kernel_rfl))); have HI0 := yaa (a6 (hon 21 (by kernel_rfl))); obtain ⟨c_, hv_⟩ := e0.out
           rw [hv_] at e30
           refine value_ (w1 := w') (v := .pointer (some (b0.add (e6).toNat))) (by rfl) rfl ?_ ?_
           ·
            go_simp
            (try simp only [i64_w])
            try rfl
           refine hK.out _ _ ⟨d0, a8, d1, a9, d3, b0, m7_, d5, (.pointer (some (b0.add (e6).toNat))), (by rw [ha.out]; exact yaz 13 hb_ rfl rfl rfl), b2, b3, offA_ (hon 3 (by kernel_rfl)), Q_HK, Q_HB, fun _ h1_ => absurd ((hon 6 (by kernel_rfl)).symm.trans h1_) (by decide), b1, a2, fun _ h1_ => absurd ((hon 11 (by kernel_rfl)).symm.trans h1_) (by decide), fun _ h1_ => absurd ((hon 14 (by kernel_rfl)).symm.trans h1_) (by decide), b6, a3, fun _ h1_ => absurd ((hon 18 (by kernel_rfl)).symm.trans h1_) (by decide), fun _ h1_ => absurd ((hon 21 (by kernel_rfl)).symm.trans h1_) (by decide), b8, a5, a6, offA_ (hoff 25 (by kernel_rfl)), c7, c3, fun _ => rfl⟩
          refine yax ?_ ?_
          ·
           rintro b a w' ⟨d0, a8, d1, a9, d3, b0, m7_, d5, d6, ha, b2, b3, e3, Q_HK, Q_HB, c2, b1, a2, c1, b9, b6, a3, b7, b4, b8, a5, a6, c0, c7, c3, c6⟩ hb_ hon hoff
           refine ⟨_, rfl, fun K hK => ?_⟩; have e33 : a.tmps[33]? = some (d6) := (by rw [ha]; exact putSel_on (e := (22, 33, d6)) 13 rfl rfl (hon 22 (by kernel_rfl)) rfl)
           rw [c6 (hon 22 (by kernel_rfl))] at e33
           replace ha := yaa ha; have b5 := yaa b2; have a7 := yaa (b3 (hoff 25 (by kernel_rfl))); have HK := yaa Q_HK; have HB := yaa Q_HB; have f4 := yaa (b8 (hon 19 (by kernel_rfl))); have e0 := yaa (a5 (hon 19 (by kernel_rfl))); have HI0 := yaa (a6 (hon 21 (by kernel_rfl))); obtain ⟨c_, hv_⟩ := e0.out; have hF_ := f4.out
           rw [hv_] at hF_
           obtain ⟨ad_, ea_, hx_⟩ := Kd.at_int (Kd.R_reads' hF_).2.2 e6 (of_eq_true pi133) (of_eq_true qi133)
           cases ea_
           refine value_ (w1 := w') (v := .int .i64 (rd y128 e6)) (by rfl) rfl ?_ ?_
           ·
            go_simp
            (try simp only [i64_w])
            try rfl
           refine hK.out _ _ ⟨d0, a8, d1, a9, d3, b0, m7_, d5, d6, (by rw [ha.out]; exact yaz 14 hb_ rfl rfl rfl), b2, b3, offA_ (hon 3 (by kernel_rfl)), Q_HK, Q_HB, fun _ h1_ => absurd ((hon 6 (by kernel_rfl)).symm.trans h1_) (by decide), b1, a2, fun _ h1_ => absurd ((hon 11 (by kernel_rfl)).symm.trans h1_) (by decide), fun _ h1_ => absurd ((hon 14 (by kernel_rfl)).symm.trans h1_) (by decide), b6, a3, fun _ h1_ => absurd ((hon 18 (by kernel_rfl)).symm.trans h1_) (by decide), fun _ h1_ => absurd ((hon 21 (by kernel_rfl)).symm.trans h1_) (by decide), b8, a5, a6, offA_ (hoff 25 (by kernel_rfl)), c7, c3, c6⟩
          refine yax ?_ ?_
          ·
           rintro b a w' ⟨d0, a8, d1, a9, d3, b0, m7_, d5, d6, ha, b2, b3, e3, Q_HK, Q_HB, c2, b1, a2, c1, b9, b6, a3, b7, b4, b8, a5, a6, c0, c7, c3, c6⟩ hb_ hon hoff
           refine ⟨_, rfl, fun K hK => ?_⟩; have e11 : a.tmps[11]? = some (.int .i64 (rd y104 e1)) := (by rw [ha]; exact (putSel_off rfl).trans rfl); have e19 : a.tmps[19]? = some (.int .i64 (rd y112 e4)) := (by rw [ha]; exact putSel_on (e := (8, 19, .int .i64 (rd y112 e4))) 4 rfl rfl (hon 8 (by kernel_rfl)) rfl); have e27 : a.tmps[27]? = some (.int .i64 (rd y120 e5)) := (by rw [ha]; exact putSel_on (e := (16, 27, .int .i64 (rd y120 e5))) 9 rfl rfl (hon 16 (by kernel_rfl)) rfl); have e34 : a.tmps[34]? = some (.int .i64 (rd y128 e6)) := (by rw [ha]; exact putSel_on (e := (23, 34, .int .i64 (rd y128 e6))) 14 rfl rfl (hon 23 (by kernel_rfl)) rfl); replace ha := yaa ha; have b5 := yaa b2; have a7 := yaa (b3 (hoff 25 (by kernel_rfl))); have HK := yaa Q_HK; have HB := yaa Q_HB; have f2 := yaa (b1 (hon 4 (by kernel_rfl))); have d8 := yaa (a2 (hon 4 (by kernel_rfl))); have f3 := yaa (b6 (hon 12 (by kernel_rfl))); have d9 := yaa (a3 (hon 12 (by kernel_rfl))); have f4 := yaa (b8 (hon 19 (by kernel_rfl))); have e0 := yaa (a5 (hon 19 (by kernel_rfl))); have HI0 := yaa (a6 (hon 21 (by kernel_rfl)))
           refine value_ (w1 := w') (v := .agg #[.int .i64 (rd y104 e1), .int .i64 (rd y112 e4), .int .i64 (rd y120 e5), .int .i64 (rd y128 e6)]) (by rfl) rfl ?_ ?_
           ·
            go_simp
            (try simp only [i64_w])
            try rfl
           refine hK.out _ _ ⟨d0, a8, d1, a9, d3, b0, m7_, d5, d6, (by rw [ha.out]; exact yaz 15 hb_ rfl rfl rfl), b2, b3, offA_ (hon 3 (by kernel_rfl)), Q_HK, Q_HB, fun _ h1_ => absurd ((hon 6 (by kernel_rfl)).symm.trans h1_) (by decide), b1, a2, fun _ h1_ => absurd ((hon 11 (by kernel_rfl)).symm.trans h1_) (by decide), fun _ h1_ => absurd ((hon 14 (by kernel_rfl)).symm.trans h1_) (by decide), b6, a3, fun _ h1_ => absurd ((hon 18 (by kernel_rfl)).symm.trans h1_) (by decide), fun _ h1_ => absurd ((hon 21 (by kernel_rfl)).symm.trans h1_) (by decide), b8, a5, a6, offA_ (hoff 25 (by kernel_rfl)), c7, c3, c6⟩
          refine yax ?_ ?_
          ·
           rintro b a w' ⟨d0, a8, d1, a9, d3, b0, m7_, d5, d6, ha, b2, b3, e3, Q_HK, Q_HB, c2, b1, a2, c1, b9, b6, a3, b7, b4, b8, a5, a6, c0, c7, c3, c6⟩ hb_ hon hoff
           refine ⟨_, rfl, fun K hK => ?_⟩; have e2 : a.tmps[2]? = some (.pointer (some ⟨d2, 0, none⟩)) := (by rw [ha]; exact (putSel_off rfl).trans rfl); have e35 : a.tmps[35]? = some (.agg #[.int .i64 (rd y104 e1), .int .i64 (rd y112 e4), .int .i64 (rd y120 e5), .int .i64 (rd y128 e6)]) := (by rw [ha]; exact putSel_on (e := (24, 35, .agg #[.int .i64 (rd y104 e1), .int .i64 (rd y112 e4), .int .i64 (rd y120 e5), .int .i64 (rd y128 e6)])) 15 rfl rfl (hon 24 (by kernel_rfl)) rfl); replace ha := yaa ha; have b5 := yaa b2; have a7 := yaa (b3 hb_); have HK := yaa Q_HK; have HB := yaa Q_HB; have f2 := yaa (b1 (hon 4 (by kernel_rfl))); have d8 := yaa (a2 (hon 4 (by kernel_rfl))); have f3 := yaa (b6 (hon 12 (by kernel_rfl))); have d9 := yaa (a3 (hon 12 (by kernel_rfl))); have f4 := yaa (b8 (hon 19 (by kernel_rfl))); have e0 := yaa (a5 (hon 19 (by kernel_rfl))); have HI0 := yaa (a6 (hon 21 (by kernel_rfl))); obtain ⟨j3, j4⟩ := d8.out; clear d8; subst j4; obtain ⟨j5, j6⟩ := d9.out; clear d9; subst j6; obtain ⟨j7, j8⟩ := e0.out; clear e0; subst j8; have l2 : w'.cell? ⟨d2, 0, none⟩ = some (.int .i64 0) := (blk_cell a7.out 0).trans rfl; have k3 := blk_frozen a7.out 0; have l3 : w'.cell? ⟨d2, 1, none⟩ = some (.int .i64 0) := (blk_cell a7.out 1).trans rfl; have k4 := blk_frozen a7.out 1; have l4 : w'.cell? ⟨d2, 2, none⟩ = some (.int .i64 0) := (blk_cell a7.out 2).trans rfl; have k5 := blk_frozen a7.out 2; have l5 : w'.cell? ⟨d2, 3, none⟩ = some (.int .i64 0) := (blk_cell a7.out 3).trans rfl; have k6 := blk_frozen a7.out 3
           refine skip_ (w1 := ?_) (by rfl) rfl ?_ ?_
           rotate_left
           ·
            go_simp
            rfl
           refine hK.out _ _ ⟨.slice (some a8) y112.length j3, a8, .slice (some a9) y120.length j5, a9, .slice (some b0) y128.length j7, b0, m7_, d5, d6, (by rw [ha.out]; exact putSel_none (v := undef) rfl), (by (with_reducible repeat (first | apply yah | apply yai | apply yam)); exact yag (Kd.R_far (p := ⟨d2, 3, none⟩) (Kd.R_far (p := ⟨d2, 2, none⟩) (Kd.R_far (p := ⟨d2, 1, none⟩) (Kd.R_far (p := ⟨d2, 0, none⟩) (Kd.R_types b5.out a7.out (by decide)) (fun _ hk => hk.2) (.int .i64 (rd y104 e1))) (fun _ hk => hk.2) (.int .i64 (rd y112 e4))) (fun _ hk => hk.2) (.int .i64 (rd y120 e5))) (fun _ hk => hk.2) (.int .i64 (rd y128 e6))) (fun _ hk => by first | exact ⟨hk.1.1, ⟨hk.1.2.1, hk.1.2.2⟩⟩ | exact True.intro | exact hk.1 | exact hk.1.1 | exact hk.1.2.1 | exact hk.1.2.2 | exact hk.2)), fun h0_ => absurd ((up_self b 25).symm.trans h0_) (by decide), offA_ (hon 3 (by kernel_rfl)), (by repeat (with_reducible first | exact HK.out | apply yaj | apply yan | apply yas | apply yao | refine yau ?_ d4.out _)), (by repeat (with_reducible first | exact HB.out | apply yar | apply yak | apply yap | refine yal ?_ (Aside0.out ‹_›) | refine yal ?_ (IsS58.ge HI0.out))), fun _ h1_ => absurd ((hon 6 (by kernel_rfl)).symm.trans h1_) (by decide), fun _ => (by (with_reducible repeat (first | apply yah | apply yai | apply yam)); exact yag (Kd.R_far (p := ⟨d2, 3, none⟩) (Kd.R_far (p := ⟨d2, 2, none⟩) (Kd.R_far (p := ⟨d2, 1, none⟩) (Kd.R_far (p := ⟨d2, 0, none⟩) (Kd.R_types f2.out a7.out (by decide)) (fun _ hk => hk.2) (.int .i64 (rd y104 e1))) (fun _ hk => hk.2) (.int .i64 (rd y112 e4))) (fun _ hk => hk.2) (.int .i64 (rd y120 e5))) (fun _ hk => hk.2) (.int .i64 (rd y128 e6))) (fun _ hk => by first | exact ⟨hk.1.1, ⟨hk.1.2.1, hk.1.2.2⟩⟩ | exact True.intro | exact hk.1 | exact hk.1.1 | exact hk.1.2.1 | exact hk.1.2.2 | exact hk.2)), fun _ => ⟨_, rfl⟩, fun _ h1_ => absurd ((hon 11 (by kernel_rfl)).symm.trans h1_) (by decide), fun _ h1_ => absurd ((hon 14 (by kernel_rfl)).symm.trans h1_) (by decide), fun _ => (by (with_reducible repeat (first | apply yah | apply yai | apply yam)); exact yag (Kd.R_far (p := ⟨d2, 3, none⟩) (Kd.R_far (p := ⟨d2, 2, none⟩) (Kd.R_far (p := ⟨d2, 1, none⟩) (Kd.R_far (p := ⟨d2, 0, none⟩) (Kd.R_types f3.out a7.out (by decide)) (fun _ hk => hk.2) (.int .i64 (rd y104 e1))) (fun _ hk => hk.2) (.int .i64 (rd y112 e4))) (fun _ hk => hk.2) (.int .i64 (rd y120 e5))) (fun _ hk => hk.2) (.int .i64 (rd y128 e6))) (fun _ hk => by first | exact ⟨hk.1.1, ⟨hk.1.2.1, hk.1.2.2⟩⟩ | exact True.intro | exact hk.1 | exact hk.1.1 | exact hk.1.2.1 | exact hk.1.2.2 | exact hk.2)), fun _ => ⟨_, rfl⟩, fun _ h1_ => absurd ((hon 18 (by kernel_rfl)).symm.trans h1_) (by decide), fun _ h1_ => absurd ((hon 21 (by kernel_rfl)).symm.trans h1_) (by decide), fun _ => (by (with_reducible repeat (first | apply yah | apply yai | apply yam)); exact yag (Kd.R_far (p := ⟨d2, 3, none⟩) (Kd.R_far (p := ⟨d2, 2, none⟩) (Kd.R_far (p := ⟨d2, 1, none⟩) (Kd.R_far (p := ⟨d2, 0, none⟩) (Kd.R_types f4.out a7.out (by decide)) (fun _ hk => hk.2) (.int .i64 (rd y104 e1))) (fun _ hk => hk.2) (.int .i64 (rd y112 e4))) (fun _ hk => hk.2) (.int .i64 (rd y120 e5))) (fun _ hk => hk.2) (.int .i64 (rd y128 e6))) (fun _ hk => by first | exact ⟨hk.1.1, ⟨hk.1.2.1, hk.1.2.2⟩⟩ | exact True.intro | exact hk.1 | exact hk.1.1 | exact hk.1.2.1 | exact hk.1.2.2 | exact hk.2)), fun _ => ⟨_, rfl⟩, fun _ => (by repeat (with_reducible first | exact HI0.out | apply yab | apply yac | apply yae | apply yad | refine yaf ?_ a4.out _)), fun _ => (by (repeat refine oneB ?_); refine blk_put (cs := #[.int .i64 (rd y104 e1), .int .i64 (rd y112 e4), .int .i64 (rd y120 e5), .int .i64 0]) ?_ 3 _ rfl; refine blk_put (cs := #[.int .i64 (rd y104 e1), .int .i64 (rd y112 e4), .int .i64 0, .int .i64 0]) ?_ 2 _ rfl; refine blk_put (cs := #[.int .i64 (rd y104 e1), .int .i64 0, .int .i64 0, .int .i64 0]) ?_ 1 _ rfl; refine blk_put (cs := #[.int .i64 0, .int .i64 0, .int .i64 0, .int .i64 0]) ?_ 0 _ rfl; exact upB a7.out), c7, c3, c6⟩
          exact steps_nil
         rintro b a w44 hall ⟨d0, a8, d1, a9, d3, b0, m7_, d5, d6, ha, b2, b3, e3, Q_HK, Q_HB, c2, b1, a2, c1, b9, b6, a3, b7, b4, b8, a5, a6, c0, c7, c3, c6⟩; clear a7 HB HI0 HK b5; have hb3_ := hall 3 (by kernel_rfl); have hb4_ := hall 4 (by kernel_rfl); have hb6_ := hall 6 (by kernel_rfl); have hb7_ := hall 7 (by kernel_rfl); have hb8_ := hall 8 (by kernel_rfl); have hb11_ := hall 11 (by kernel_rfl); have hb12_ := hall 12 (by kernel_rfl); have hb14_ := hall 14 (by kernel_rfl); have hb15_ := hall 15 (by kernel_rfl); have hb16_ := hall 16 (by kernel_rfl); have hb18_ := hall 18 (by kernel_rfl); have hb19_ := hall 19 (by kernel_rfl); have hb21_ := hall 21 (by kernel_rfl); have hb22_ := hall 22 (by kernel_rfl); have hb23_ := hall 23 (by kernel_rfl); have hb24_ := hall 24 (by kernel_rfl); have hb25_ := hall 25 (by kernel_rfl); subst ha; obtain rfl := c7 hb7_; obtain rfl := c3 hb15_; obtain rfl := c6 hb22_
         simp only [putSel, hb3_, hb4_, hb6_, hb7_, hb8_, hb11_, hb12_, hb14_, hb15_, hb16_, hb18_, hb19_, hb21_, hb22_, hb23_, hb24_, hb25_, if_true, Act.put, List.setIfInBounds_toArray, List.set_cons_zero, List.set_cons_succ]
         have b5 := yaa b2; clear b2; clear b3; clear e3; have HK := yaa Q_HK; clear Q_HK; have HB := yaa Q_HB; clear Q_HB; clear c2; have f2 := yaa (b1 hb4_); clear b1; have d8 := yaa (a2 hb4_); clear a2; clear c1; clear b9; have f3 := yaa (b6 hb12_); clear b6; have d9 := yaa (a3 hb12_); clear a3; clear b7; clear b4; have f4 := yaa (b8 hb19_); clear b8; have e0 := yaa (a5 hb19_); clear a5; have HI0 := yaa (a6 hb21_); clear a6; have a7 := yaa (c0 hb25_); clear c0; clear hall hb3_ hb4_ hb6_ hb7_ hb8_ hb11_ hb12_ hb14_ hb15_ hb16_ hb18_ hb19_ hb21_ hb22_ hb23_ hb24_ hb25_; obtain ⟨l6, j9⟩ := d8.out; clear d8; subst j9; obtain ⟨l7, k0⟩ := d9.out; clear d9; subst k0; obtain ⟨l8, k1⟩ := e0.out; clear e0; subst k1
         try go_wp2
         refine bodyPost_ret (results_cell_row rfl _ _ d2 53 #[.int .i64 (rd y104 e1), .int .i64 (rd y112 e4), .int .i64 (rd y120 e5), .int .i64 (rd y128 e6)] (0, 0) _ rfl (upB a7.out) Try.underlying53 rfl (by kernel_rfl)) rfl ?_
         exact ⟨by first | rfl | (simp [*, errW_none, errW_some] <;> rfl), by repeat (with_reducible first | exact HI0.out | apply yab | apply yac | apply yae | apply yad | refine yaf ?_ a4.out _), by repeat (with_reducible first | exact HB.out | apply yar | apply yak | apply yap | refine yal ?_ (Aside0.out ‹_›) | refine yal ?_ (IsS58.ge HI0.out)), by repeat (with_reducible first | exact HK.out | apply yaj | apply yan | apply yas | apply yao | refine yau ?_ d4.out _)⟩
        ·
         rw [if_neg c17] at H
         exact absurd H (by simp)
       ·
        rw [if_neg c16] at H
        exact absurd H (by simp)
      ·
       rw [if_neg c13] at H
       exact absurd H (by simp)
     ·
      rw [if_neg c12] at H
      exact absurd H (by simp)
    ·
     rw [if_neg c9] at H
     exact absurd H (by simp)
   ·
    rw [if_neg c8] at H
    exact absurd H (by simp)
  ·
   rw [if_neg c5] at H
   exact absurd H (by simp)
 ·
  rw [if_neg c4] at H
  exact absurd H (by simp)
end
section
open Go.Proofs.YtljobjpldbdhoaaW.PrintWords.Aside0 renaming mk → yaa
open Go.Proofs.Ytljobjpldbdhoaa.X.IsS58 renaming far → yab, alloc → yad, drewN → yae, set_1 → yaf, drew → yai, ge → yas, apartQ → yat
open Go.Proofs.YtljobjpldbdhoaaW.PrintWords renaming keep_far → yac, below_set → yag, pw_below_drewN → yaj, keep_drewN → yal, keep_alloc → yam, below_drew1 → yan, below_alloc → yao, keep_drew → yap, blk_cell → yar, blk_put → yav, blk_below → yaw, Aside0 → yba
open Go.Proofs.YtljobjpldbdhoaaW.PrintWords.KeepBut renaming set_ → yah, blk → yak, trans → yaq, of_below → yaz
open Go.Proofs.YtljobjpldbdhoaaW.PrintWords.Kd renaming Q_mono → yau, Q_keep → yax, Q_far → yay

abbrev q16_0 : Array Bool := Array.replicate 10 false
abbrev q16_1 : Array Bool := #[true, false, false, false, false, false, false, false, false, false]
abbrev q16_2 : Array Bool := #[true, false, false, false, true, false, false, false, false, false]
abbrev q16_3 : Array Bool := #[true, true, false, false, true, false, false, false, false, false]
abbrev q16_4 : Array Bool := #[true, true, true, false, true, false, false, false, false, false]
abbrev q16_5 : Array Bool := #[true, true, true, true, true, true, false, false, false, false]
abbrev q16_6 : Array Bool := #[true, true, true, true, true, false, false, false, false, false]
abbrev q16_7 : Array Bool := #[true, true, true, false, true, true, false, false, false, false]
abbrev q16_8 : Array Bool := #[true, true, true, true, true, true, true, false, false, false]
abbrev q16_9 : Array Bool := #[true, true, true, true, true, true, true, true, false, false]
abbrev q16_10 : Array Bool := #[true, true, true, true, true, true, true, true, true, false]
abbrev q16_11 : Array Bool := #[true, true, true, true, true, true, true, true, true, true]
abbrev q16_12 : Array Bool := Array.replicate 15 false
abbrev q16_13 : Array Bool := bl_ 15 1
abbrev q16_14 : Array Bool := bl_ 15 5
abbrev q16_15 : Array Bool := bl_ 15 13
abbrev q16_16 : Array Bool := bl_ 15 269
abbrev q16_17 : Array Bool := bl_ 15 271
abbrev q16_18 : Array Bool := bl_ 15 287
abbrev q16_19 : Array Bool := bl_ 15 319
abbrev q16_20 : Array Bool := bl_ 15 1023
abbrev q16_21 : Array Bool := bl_ 15 383
abbrev q16_22 : Array Bool := bl_ 15 447
abbrev q16_23 : Array Bool := bl_ 15 511
abbrev q16_24 : Array Bool := bl_ 15 895
abbrev q16_25 : Array Bool := bl_ 15 2047
abbrev q16_26 : Array Bool := bl_ 15 4095
abbrev q16_27 : Array Bool := bl_ 15 8191
abbrev q16_28 : Array Bool := bl_ 15 16383
abbrev q16_29 : Array Bool := bl_ 15 32767
def spec_l20Ras.l0 : Nat → Int → Int → List Int → Int → Int → Int → List (S53) → Int → Int → Int → Int → Option (Int × Int × (List (S53)) × Int)
 | 0, _, _, _, _, _, _, _, _, _, _, _ => none
 | k + 1, x1, x7, x1000, x1001, x107000, x107001, x107002, x113000, x113001, x113002, x113003 => if x7 < (wrap64 (x107000 * x107001)) then ((spec_l20Rd_pick.f k x1000 x1001 3).bind fun bt113 => (if bt113.1 > 0 then ((spec_l20Pix.f k x1000 bt113.2).bind fun bt115 => (if x107002.length < 4398046511104 then (spec_l20Ras.l0 k x1 (wrap64 (x7 + 1)) x1000 bt115.2.2.2.2 x107000 x107001 (x107002 ++ [(⟨bt115.1, bt115.2.1, bt115.2.2.1, bt115.2.2.2.1⟩ : S53)]) bt115.1 bt115.2.1 bt115.2.2.1 bt115.2.2.2.1) else (none))) else (if x107002.length < 4398046511104 then (spec_l20Ras.l0 k x1 (wrap64 (x7 + 1)) x1000 bt113.2 x107000 x107001 (x107002 ++ [(⟨x113000, x113001, x113002, x113003⟩ : S53)]) x113000 x113001 x113002 x113003) else (none)))) else ((spec_l20Rd_odd.f k x1000 x1001 x1).bind fun bt126 => (if bt126.1 = true then ((spec_l20Rd_pick.f k x1000 bt126.2 4).bind fun bt128 => (if bt128.1 = 0 then ((some (([0, (-1), 7, wrap64 (x107000 + 1)] : List Int) : List Int)).bind fun y130 => ((spec_l20Rd_pick.f k x1000 bt128.2 4).bind fun bt133 => (if 0 ≤ bt133.1 then (if bt133.1 < (y130.length : Int) then (some (rd y130 bt133.1, x107001, x107002, bt133.2)) else (none)) else (none)))) else (if bt128.1 = 1 then ((some (([0, 7] : List Int) : List Int)).bind fun y136 => ((spec_l20Rd_pick.f k x1000 bt128.2 2).bind fun bt139 => (if 0 ≤ bt139.1 then (if bt139.1 < (y136.length : Int) then (some (x107000, rd y136 bt139.1, x107002, bt139.2)) else (none)) else (none)))) else (if bt128.1 = 2 then (if 1 ≤ (x107002.length : Int) then (some (x107000, x107001, (x107002.drop (1 : Int).toNat), bt128.2)) else (none)) else ((spec_l20Rd_pick.f k x1000 bt128.2 (x107002.length : Int)).bind fun bt145 => ((some (([(-1), 256] : List Int) : List Int)).bind fun y147 => ((spec_l20Rd_pick.f k x1000 bt145.2 2).bind fun bt150 => (if 0 ≤ bt150.1 then (if bt150.1 < (y147.length : Int) then (if 0 ≤ bt145.1 then (if bt145.1 < (x107002.length : Int) then (some (x107000, x107001, (x107002.set (bt145.1 : Int).toNat (⟨(rd_T53 x107002 bt145.1).f0, rd y147 bt150.1, (rd_T53 x107002 bt145.1).f2, (rd_T53 x107002 bt145.1).f3⟩ : S53)), bt150.2)) else (none)) else (none)) else (none)) else (none))))))))) else (some (x107000, x107001, x107002, bt126.2))))
def spec_l20Ras.f (k : Nat) (s0_0 : List Int) (s0_1 : Int) (a1 : Int) : Option (Int × Int × (List (S53)) × Int) := (spec_l20Rd_pick.f k s0_0 s0_1 6).bind fun bt102 => ((spec_l20Rd_pick.f k s0_0 bt102.2 6).bind fun bt104 => ((spec_l20Pix.f k s0_0 bt104.2).bind fun bt107 => (spec_l20Ras.l0 k a1 0 s0_0 bt107.2.2.2.2 (wrap64 (1 + bt102.1)) (wrap64 (1 + bt104.1)) ([] : List (S53)) bt107.1 bt107.2.1 bt107.2.2.1 bt107.2.2.2.1)))
def spec_l20Ras.T11 : Bool × List (List Nat × List Nat) := (true, [([], []), ([0], [0]), ([], []), ([], []), ([3], [3]), ([4], [4]), ([2, 5], [2, 5]), ([], []), ([], []), ([8, 6], [8]), ([7, 9], [7, 9]), ([10], [10]), ([1, 6, 0, 1, 2, 3, 4, 5, 6, 7, 8, 9, 10, 11], [1, 6]), ([12, 0, 1, 2, 3, 4, 5, 6, 7, 8, 9, 10, 11], [12]), ([13, 11, 9, 0, 1, 2, 3, 4, 5, 6, 7, 8, 9, 10, 11], [11, 13])])
def spec_l20Ras.B11 : List Nat := [0, 1, 0, 0, 8, 24, 60, 0, 0, 380, 1020, 2044, 4095, 8191, 16383]
theorem spec_l20Ras.tab11 : rtab .any (opsOf Try.f16 11) = spec_l20Ras.T11 := by kernel_rfl
theorem spec_l20Ras.bits11 : waitsOk spec_l20Ras.T11.2 spec_l20Ras.B11 = true := by kernel_rfl
def spec_l20Ras.T13 : Bool × List (List Nat × List Nat) := (true, [([], []), ([0], [0]), ([1], [1]), ([2], [2]), ([], []), ([4], [4]), ([3, 5], [3, 5]), ([6], [6]), ([0, 1, 2, 3, 4, 5, 6, 7], []), ([8, 7, 5, 0, 1, 2, 3, 4, 5, 6, 7], [7, 8])])
def spec_l20Ras.B13 : List Nat := [0, 1, 3, 7, 0, 16, 63, 127, 255, 511]
theorem spec_l20Ras.tab13 : rtab .any (opsOf Try.f16 13) = spec_l20Ras.T13 := by kernel_rfl
theorem spec_l20Ras.bits13 : waitsOk spec_l20Ras.T13.2 spec_l20Ras.B13 = true := by kernel_rfl
set_option maxHeartbeats 8000000 in
set_option maxRecDepth 100000 in
theorem spec_l20Ras.calls (k : Nat) (g : Nat) (s0_0 : List Int) (s0_1 : Int) (a1 : Int) (r1 : Int) (r2 : Int) (r3 : List (S53)) (r4 : Int) (w0 w : World) (hI : IsS58 w0 w g s0_0 s0_1) (hB : Below w0.heap.size w0 w) (h : spec_l20Ras.f k s0_0 s0_1 a1 = some (r1, r2, r3, r4)) :
  Calls Try.prog 16 #[.pointer (some ⟨g, 0, none⟩), .int .i64 a1] w fun e w' => ∃ v2_ : Value, e = .returned (.agg #[.int .i64 r1, .int .i64 r2, v2_]) ∧ Kd.Q k53 53 w' w.heap.size (fun _ => True) v2_ r3 ∧ IsS58 w0 w' g s0_0 r4 ∧ Below w0.heap.size w0 w' ∧ KeepBut w w' g none := by
 have hu25 := Try.underlying25; have hu53 := Try.underlying53; have HI0 := yaa hI; have HK := yaa (KeepBut.refl w g none); have HL := yaa hB.size; clear hI; have HW0 := yaa hB.size; have HB := yaa hB; clear hB; have H : ((spec_l20Rd_pick.f k s0_0 s0_1 6).bind fun k7 => ((spec_l20Rd_pick.f k s0_0 k7.2 6).bind fun k8 => ((spec_l20Pix.f k s0_0 k8.2).bind fun f8 => (spec_l20Ras.l0 k a1 0 s0_0 f8.2.2.2.2 (wrap64 (1 + k7.1)) (wrap64 (1 + k8.1)) ([] : List (S53)) f8.1 f8.2.1 f8.2.2.1 f8.2.2.2.1)))) = some (r1, r2, r3, r4) := h; clear h; obtain ⟨⟨c5, m2⟩, A3, H⟩ := bindA H; (try dsimp only at H); obtain ⟨⟨d2, l7⟩, A4, H⟩ := bindA H; (try dsimp only at H); obtain ⟨⟨h3, i2, l8, m3, l9⟩, A5, H⟩ := bindA H; (try dsimp only at H); have H' := yaa H; clear H
 go_enter Try.func16, Try.ntmps16
 go_wp2_with (first | ((with_reducible refine gd_ 4 rfl ?_); refine bx_ 4 rfl #[.int .i64 0, .int .i64 0, .slice none 0 0] 25 ?_; intro c6 hg w6 hbox hb; replace HB := yaa (below_step (by repeat (with_reducible first | exact HB.out | apply yao | apply yaj | apply yan | refine yag ?_ (yas HI0.out))) hb); have a8 := yaa (hbox); have b1 := yaa ((by rw [hg]; exact (keep_size (w := w) (g := g) (row := none) (by repeat (with_reducible first | exact HK.out | apply yah | apply yal | apply yap | apply yam))) : w.heap.size ≤ c6)); have L2 := yaa ((Nat.le_trans HW0.out (by rw [hg]; exact (keep_size (w := w) (g := g) (row := none) (by repeat (with_reducible first | exact HK.out | apply yah | apply yal | apply yap | apply yam))) : w.heap.size ≤ c6) : w0.heap.size ≤ c6)); replace HK := yaa (yaq (by repeat (with_reducible first | exact HK.out | apply yah | apply yal | apply yap | apply yam)) (yaz hb g none) (.inl rfl)); have a6 := yaa ((by rw [hg]; exact Nat.ne_of_lt (IsS58.lt (show IsS58 w0 _ g s0_0 s0_1 from by repeat (with_reducible first | exact HI0.out | apply yad | apply yae | apply yai | apply yaf))) : g ≠ c6)); replace HI0 := yaa (IsS58.below (by repeat (with_reducible first | exact HI0.out | apply yad | apply yae | apply yai | apply yaf)) hb); have b7 := yaa a6.out.symm; clear hb hbox hg) | ((with_reducible refine gc_ 14 rfl ?_); refine gl_ (some 9) rfl Try.func14 #[.pointer (some ⟨g, 0, none⟩), .int .i64 6] ?_; (with_reducible refine (spec_l20Rd_pick.calls k g s0_0 s0_1 6 c5 m2 w0 _ ?side1 ?side2 A3.out).mono ?_); (case side1 => repeat (with_reducible first | exact HI0.out | apply yad | apply yae | apply yai | apply yaf | refine yab ?_ a6.out _)); (case side2 => repeat (with_reducible first | exact HB.out | apply yao | apply yaj | apply yan | refine yag ?_ (Aside0.out ‹_›) | refine yag ?_ (yas HI0.out))); rintro e w7 ⟨rfl, hi, hb, hk⟩; refine ⟨_, rfl, ?_⟩; replace a8 := yaa (yak hk (upB a8.out) b7.out (by simp)); replace HK := yaa (yaq (by repeat (with_reducible first | exact HK.out | apply yah | apply yal | apply yap | apply yam | refine yac ?_ b1.out _)) hk (.inl rfl)); replace HB := yaa (hb); replace HI0 := yaa (hi); (try clear hb hk hi)) | ((with_reducible refine gc_ 14 rfl ?_); refine gl_ (some 12) rfl Try.func14 #[.pointer (some ⟨g, 0, none⟩), .int .i64 6] ?_; (with_reducible refine (spec_l20Rd_pick.calls k g s0_0 m2 6 d2 l7 w0 _ ?side1 ?side2 A4.out).mono ?_); (case side1 => repeat (with_reducible first | exact HI0.out | apply yad | apply yae | apply yai | apply yaf | refine yab ?_ a6.out _)); (case side2 => repeat (with_reducible first | exact HB.out | apply yao | apply yaj | apply yan | refine yag ?_ (Aside0.out ‹_›) | refine yag ?_ (yas HI0.out))); rintro e w8 ⟨rfl, hi, hb, hk⟩; refine ⟨_, rfl, ?_⟩; replace a8 := yaa (yak hk (upB a8.out) b7.out (by simp)); replace HK := yaa (yaq (by repeat (with_reducible first | exact HK.out | apply yah | apply yal | apply yap | apply yam | refine yac ?_ b1.out _)) hk (.inl rfl)); replace HB := yaa (hb); replace HI0 := yaa (hi); (try clear hb hk hi)) | ((with_reducible refine gd_ 5 rfl ?_); refine bx_ 5 rfl #[.int .i64 0, .int .i64 0, .slice none 0 0] 25 ?_; intro c4 hg w9 hbox hb; replace HB := yaa (below_step (by repeat (with_reducible first | exact HB.out | apply yao | apply yaj | apply yan | refine yag ?_ (Aside0.out ‹_›) | refine yag ?_ (yas HI0.out))) hb); have a4 := yaa (hbox); have b2 := yaa ((by rw [hg]; exact (keep_size (w := w) (g := g) (row := none) (by repeat (with_reducible first | exact HK.out | apply yah | apply yal | apply yap | apply yam | refine yac ?_ b1.out _))) : w.heap.size ≤ c4)); have L3 := yaa ((Nat.le_trans HW0.out (by rw [hg]; exact (keep_size (w := w) (g := g) (row := none) (by repeat (with_reducible first | exact HK.out | apply yah | apply yal | apply yap | apply yam | refine yac ?_ b1.out _))) : w.heap.size ≤ c4) : w0.heap.size ≤ c4)); replace HK := yaa (yaq (by repeat (with_reducible first | exact HK.out | apply yah | apply yal | apply yap | apply yam | refine yac ?_ b1.out _)) (yaz hb g none) (.inl rfl)); have c0 := yaa ((by rw [hg]; exact Nat.ne_of_lt (blk_lt (upB a8.out)) : c6 ≠ c4)); replace a8 := yaa (yaw (upB a8.out) hb); have d5 := yaa c0.out.symm; have a7 := yaa ((by rw [hg]; exact Nat.ne_of_lt (IsS58.lt (show IsS58 w0 _ g s0_0 l7 from by repeat (with_reducible first | exact HI0.out | apply yad | apply yae | apply yai | apply yaf | refine yab ?_ a6.out _))) : g ≠ c4)); replace HI0 := yaa (IsS58.below (by repeat (with_reducible first | exact HI0.out | apply yad | apply yae | apply yai | apply yaf | refine yab ?_ a6.out _)) hb); have b5 := yaa a7.out.symm; clear hb hbox hg; have L4 := d5.out; have L5 := c0.out; have L6 := b5.out; have L7 := a7.out; obtain ⟨i3, i4, i5⟩ := cc3_ a4.out; obtain ⟨i6, i7⟩ := cf2_ a4.out; have i9 := blk_frozen a4.out 2) | ((with_reducible refine gc_ 26 rfl ?_); refine gl_ (some 16) rfl Try.func26 #[.pointer (some ⟨g, 0, none⟩)] ?_; (with_reducible refine (spec_l20Pix.calls k g s0_0 l7 h3 i2 l8 m3 l9 w0 _ ?side1 ?side2 A5.out).mono ?_); (case side1 => repeat (with_reducible first | exact HI0.out | apply yad | apply yae | apply yai | apply yaf | refine yab ?_ a6.out _ | refine yab ?_ a7.out _)); (case side2 => repeat (with_reducible first | exact HB.out | apply yao | apply yaj | apply yan | refine yag ?_ (Aside0.out ‹_›) | refine yag ?_ (yas HI0.out))); rintro e w13 ⟨rfl, hi, hb, hk⟩; refine ⟨_, rfl, ?_⟩; replace a8 := yaa (yak hk (g' := c6) (o := .cells #[.int .i64 0, .int .i64 0, .slice none 0 0] 25 (0, 0)) (by repeat (with_reducible first | exact a8.out | refine oneB ?_ | refine blk_far ?_ c0.out _)) b7.out (by simp)); replace a4 := yaa (yak hk (g' := c4) (o := .cells #[.int .i64 (wrap64 (1 + c5)), .int .i64 (wrap64 (1 + d2)), .slice none 0 0] 25 (0, 0)) (by (repeat refine oneB ?_); refine yav (cs := #[.int .i64 (wrap64 (1 + c5)), .int .i64 (wrap64 (1 + d2)), .slice none 0 0]) ?_ 2 _ rfl; refine yav (cs := #[.int .i64 (wrap64 (1 + c5)), .int .i64 0, .slice none 0 0]) ?_ 1 _ rfl; refine yav (cs := #[.int .i64 0, .int .i64 0, .slice none 0 0]) ?_ 0 _ rfl; exact upB a4.out) b5.out (by simp)); replace HK := yaa (yaq (by repeat (with_reducible first | exact HK.out | apply yah | apply yal | apply yap | apply yam | refine yac ?_ b1.out _ | refine yac ?_ b2.out _)) hk (.inl rfl)); replace HB := yaa (hb); replace HI0 := yaa (hi); (try clear hb hk hi)) | ((with_reducible refine gd_ 6 rfl ?_); refine bx_ 6 rfl #[.int .i64 0, .int .i64 0, .int .i64 0, .int .i64 0] 53 ?_; intro c9 hg w14 hbox hb; replace HB := yaa (below_step (by repeat (with_reducible first | exact HB.out | apply yao | apply yaj | apply yan | refine yag ?_ (Aside0.out ‹_›) | refine yag ?_ (yas HI0.out))) hb); have b0 := yaa (hbox); have b4 := yaa ((by rw [hg]; exact (keep_size (w := w) (g := g) (row := none) (by repeat (with_reducible first | exact HK.out | apply yah | apply yal | apply yap | apply yam | refine yac ?_ b1.out _ | refine yac ?_ b2.out _))) : w.heap.size ≤ c9)); have L8 := yaa ((Nat.le_trans HW0.out (by rw [hg]; exact (keep_size (w := w) (g := g) (row := none) (by repeat (with_reducible first | exact HK.out | apply yah | apply yal | apply yap | apply yam | refine yac ?_ b1.out _ | refine yac ?_ b2.out _))) : w.heap.size ≤ c9) : w0.heap.size ≤ c9)); replace HK := yaa (yaq (by repeat (with_reducible first | exact HK.out | apply yah | apply yal | apply yap | apply yam | refine yac ?_ b1.out _ | refine yac ?_ b2.out _)) (yaz hb g none) (.inl rfl)); have d0 := yaa ((by rw [hg]; exact Nat.ne_of_lt (blk_lt (upB a8.out)) : c6 ≠ c9)); replace a8 := yaa (yaw (upB a8.out) hb); have d6 := yaa d0.out.symm; have c7 := yaa ((by rw [hg]; exact Nat.ne_of_lt (blk_lt (upB a4.out)) : c4 ≠ c9)); replace a4 := yaa (yaw (upB a4.out) hb); have d1 := yaa c7.out.symm; have a9 := yaa ((by rw [hg]; exact Nat.ne_of_lt (IsS58.lt (show IsS58 w0 _ g s0_0 l9 from by repeat (with_reducible first | exact HI0.out | apply yad | apply yae | apply yai | apply yaf | refine yab ?_ a6.out _ | refine yab ?_ a7.out _))) : g ≠ c9)); replace HI0 := yaa (IsS58.below (by repeat (with_reducible first | exact HI0.out | apply yad | apply yae | apply yai | apply yaf | refine yab ?_ a6.out _ | refine yab ?_ a7.out _)) hb); have b9 := yaa a9.out.symm; clear hb hbox hg; have L9 := d6.out; have M0 := d0.out; have M1 := d1.out; have M2 := c7.out; have M3 := b9.out; have M4 := a9.out; obtain ⟨j0, j1, j2, j3⟩ := cc4_ b0.out; obtain ⟨j4, j5, j6⟩ := cf3_ b0.out; have j7 := blk_frozen b0.out 3))
 (try simp only [Act.put, List.setIfInBounds_toArray, List.set_cons_zero, List.set_cons_succ])
 go_loopg [7] k (fun kq v7 w' => ∃ (f4 : Int) (c8 : Int) (a5 : List (S53)) (c3 : Int) (b8 : Int) (b6 : Int) (b3 : Int) (u107002 : Value), v7 = .int .i64 f4 ∧ yba (spec_l20Ras.l0 kq a1 f4 s0_0 c8 (wrap64 (1 + c5)) (wrap64 (1 + d2)) a5 c3 b8 b6 b3 = some (r1, r2, r3, r4)) ∧ yba (kq ≤ k) ∧ yba (Kd.Q k53 53 w' w.heap.size (fun k_ => k_ ≠ c9) u107002 a5) ∧ yba (w'.heap[c6]? = some (.cells #[.int .i64 0, .int .i64 0, (.slice none 0 0)] 25 (0, 0))) ∧ yba (w'.heap[c4]? = some (.cells #[.int .i64 (wrap64 (1 + c5)), .int .i64 (wrap64 (1 + d2)), u107002] 25 (0, 0))) ∧ yba (w'.heap[c9]? = some (.cells #[.int .i64 c3, .int .i64 b8, .int .i64 b6, .int .i64 b3] 53 (0, 0))) ∧ yba (IsS58 w0 w' g s0_0 c8) ∧ yba (KeepBut w w' g none) ∧ yba (Below w0.heap.size w0 w'))
 case atStart => exact ⟨(0), (l9), (([] : List (S53))), (h3), (i2), (l8), (m3), (.slice none 0 0), (by first | rfl | (simp; done) | (simp [*]; done)), H', ⟨Nat.le_refl _⟩, ⟨Kd.Q_of_R (by first | exact Kd.R_nil _ _ _ _ _ | exact Kd.N_nil _ _ _ _ _ | exact Kd.V_nil _ _ _ _ _ | exact Kd.Q_nil _ _ _ _ _ | exact Kd.S_nil _ _ _ _ _)⟩, ⟨by repeat (with_reducible first | exact a8.out | refine oneB ?_ | refine blk_far ?_ d0.out _)⟩, ⟨by repeat (with_reducible first | exact a4.out | refine oneB ?_ | refine blk_far ?_ c7.out _)⟩, ⟨by (repeat refine oneB ?_); refine yav (cs := #[.int .i64 h3, .int .i64 i2, .int .i64 l8, .int .i64 0]) ?_ 3 _ rfl; refine yav (cs := #[.int .i64 h3, .int .i64 i2, .int .i64 0, .int .i64 0]) ?_ 2 _ rfl; refine yav (cs := #[.int .i64 h3, .int .i64 0, .int .i64 0, .int .i64 0]) ?_ 1 _ rfl; refine yav (cs := #[.int .i64 0, .int .i64 0, .int .i64 0, .int .i64 0]) ?_ 0 _ rfl; exact upB b0.out⟩, ⟨by repeat (with_reducible first | exact HI0.out | apply yad | apply yae | apply yai | apply yaf | refine yab ?_ a6.out _ | refine yab ?_ a7.out _ | refine yab ?_ a9.out _)⟩, ⟨by repeat (with_reducible first | exact HK.out | apply yah | apply yal | apply yap | apply yam | refine yac ?_ b1.out _ | refine yac ?_ b2.out _ | refine yac ?_ b4.out _)⟩, ⟨by repeat (with_reducible first | exact HB.out | apply yao | apply yaj | apply yan | refine yag ?_ (Aside0.out ‹_›) | refine yag ?_ (yas HI0.out))⟩⟩
 case round =>
  clear H'; (try clear c1); (try clear c2); (try clear p2); (try clear p6); (try clear c10); (try clear c11); (try clear c14); (try clear c15); (try clear c16); (try clear c17); (try clear i3); (try clear i4); (try clear i5); (try clear j0); (try clear j1); (try clear j2); (try clear j3); (try clear i6); (try clear i7); (try clear i9); (try clear j4); (try clear j5); (try clear j6); (try clear j7); obtain ⟨f4, c8, a5, c3, b8, b6, b3, u107002, rfl, HA, HK1, a3, a8, a4, b0, HI0, HK, HB⟩ := hrel
  cases gk with
  | zero => exact absurd HA.out (by simp [spec_l20Ras.l0])
  | succ k1 =>
   have H := HA.out; clear HA
   simp only [spec_l20Ras.l0] at H
   by_cases c19 : f4 < (wrap64 ((wrap64 (1 + c5)) * (wrap64 (1 + d2))))
   ·
    rw [if_pos c19] at H
    have m5 : decide (f4 < (wrap64 ((wrap64 (1 + c5)) * (wrap64 (1 + d2))))) = true := decide_eq_true c19; clear c19; obtain ⟨⟨h4, h2⟩, A20, H⟩ := bindA H; (try dsimp only at H)
    by_cases c21 : h4 > 0
    ·
     rw [if_pos c21] at H
     have m6 : decide (0 < h4) = true := decide_eq_true c21; clear c21; obtain ⟨⟨e3, e5, e7, f5, m0⟩, A22, H⟩ := bindA H; (try dsimp only at H)
     by_cases c23 : a5.length < 4398046511104
     ·
      rw [if_pos c23] at H
      have LMc23 := yaa c23; clear c23; obtain ⟨y120, hy120⟩ : ∃ y_ : List (S53), y_ = (a5 ++ [(⟨e3, e5, e7, f5⟩ : S53)]) := ⟨_, rfl⟩
      replace H : (spec_l20Ras.l0 k1 a1 (wrap64 (f4 + 1)) s0_0 m0 (wrap64 (1 + c5)) (wrap64 (1 + d2)) y120 e3 e5 e7 f5) = some (r1, r2, r3, r4) := by first | (rw [hy120]; with_reducible exact H) | (have H2_ := (Option.bind_some _ _).symm.trans H; rw [hy120]; with_reducible exact H2_) | (have H2_ := (Option.bind_some _ _).symm.trans H; with_reducible exact H2_) | with_reducible exact H | (rw [hy120]; exact H) | exact H
      have Ny120 := yaa hy120; clear hy120; have H' := yaa H; clear H; have M5 := d5.out; have M6 := c0.out; have M7 := c7.out; have M8 := d1.out; have M9 := b5.out; have N0 := a7.out; obtain ⟨v3, v4, v5⟩ := cc3_ a4.out; obtain ⟨v6, v8, v9⟩ := cf3_ a4.out
      go_wp2_with (first | ((with_reducible refine gc_ 14 rfl ?_); refine gl_ (some 27) rfl Try.func14 #[.pointer (some ⟨g, 0, none⟩), .int .i64 3] ?_; (with_reducible refine (spec_l20Rd_pick.calls k1 g s0_0 c8 3 h4 h2 w0 _ ?side1 ?side2 A20.out).mono ?_); (case side1 => repeat (with_reducible first | exact HI0.out | apply yad | apply yae | apply yai | apply yaf | refine yab ?_ a6.out _ | refine yab ?_ a7.out _ | refine yab ?_ a9.out _)); (case side2 => repeat (with_reducible first | exact HB.out | apply yao | apply yaj | apply yan | refine yag ?_ (Aside0.out ‹_›) | refine yag ?_ (yas HI0.out))); rintro e w28 ⟨rfl, hi, hb, hk⟩; refine ⟨_, rfl, ?_⟩; replace a3 := yaa (yau (yax (yat (show IsS58 w0 _ g s0_0 c8 from by repeat (with_reducible first | exact HI0.out | apply yad | apply yae | apply yai | apply yaf | refine yab ?_ a6.out _ | refine yab ?_ a7.out _ | refine yab ?_ a9.out _)) (upQ a3.out) (by decide)) hk (fun _ h => h.2)) (fun _ h => h.1)); replace a8 := yaa (yak hk (upB a8.out) b7.out (by simp)); replace a4 := yaa (yak hk (upB a4.out) b5.out (by simp)); replace b0 := yaa (yak hk (upB b0.out) b9.out (by simp)); replace HK := yaa (yaq (by repeat (with_reducible first | exact HK.out | apply yah | apply yal | apply yap | apply yam | refine yac ?_ b1.out _ | refine yac ?_ b2.out _ | refine yac ?_ b4.out _)) hk (.inl rfl)); replace HB := yaa (hb); replace HI0 := yaa (hi); (try clear hb hk hi)) | ((with_reducible refine gc_ 26 rfl ?_); refine gl_ (some 30) rfl Try.func26 #[.pointer (some ⟨g, 0, none⟩)] ?_; (with_reducible refine (spec_l20Pix.calls k1 g s0_0 h2 e3 e5 e7 f5 m0 w0 _ ?side1 ?side2 A22.out).mono ?_); (case side1 => repeat (with_reducible first | exact HI0.out | apply yad | apply yae | apply yai | apply yaf | refine yab ?_ a6.out _ | refine yab ?_ a7.out _ | refine yab ?_ a9.out _)); (case side2 => repeat (with_reducible first | exact HB.out | apply yao | apply yaj | apply yan | refine yag ?_ (Aside0.out ‹_›) | refine yag ?_ (yas HI0.out))); rintro e w29 ⟨rfl, hi, hb, hk⟩; refine ⟨_, rfl, ?_⟩; replace a3 := yaa (yau (yax (yat (show IsS58 w0 _ g s0_0 h2 from by repeat (with_reducible first | exact HI0.out | apply yad | apply yae | apply yai | apply yaf | refine yab ?_ a6.out _ | refine yab ?_ a7.out _ | refine yab ?_ a9.out _)) (upQ a3.out) (by decide)) hk (fun _ h => h.2)) (fun _ h => h.1)); replace a8 := yaa (yak hk (upB a8.out) b7.out (by simp)); replace a4 := yaa (yak hk (upB a4.out) b5.out (by simp)); replace b0 := yaa (yak hk (upB b0.out) b9.out (by simp)); replace HK := yaa (yaq (by repeat (with_reducible first | exact HK.out | apply yah | apply yal | apply yap | apply yam | refine yac ?_ b1.out _ | refine yac ?_ b2.out _ | refine yac ?_ b4.out _)) hk (.inl rfl)); replace HB := yaa (hb); replace HI0 := yaa (hi); (try clear hb hk hi); have N1 := d6.out; have N2 := d0.out; have N3 := b9.out; have N4 := a9.out; obtain ⟨w2, w3, w4, w5⟩ := cc4_ b0.out; obtain ⟨x0, x2, x3, x4⟩ := cf4_ b0.out; obtain ⟨x5, x6, x8⟩ := cc3_ a4.out; obtain ⟨x9, z0⟩ := cf2_ a4.out; have z1 := blk_frozen a4.out 2) | ((with_reducible refine gate_builtin (b := .append) (xs := #[.tmp 32, .tmp 34]) rfl ?_); at_builtin; refine Kd.Q_append k53 w.heap.size rfl (.tmp 32) (.tmp 34) 23 53 (.agg #[(.int .i64 0), (.int .i64 0), (.int .i64 0), (.int .i64 0)]) 32 rfl Try.underlying23 info53 rfl (by decide) (by omega) u107002 a5 (⟨e3, e5, e7, f5⟩ : S53) [.int .i64 e3, .int .i64 e5, .int .i64 e7, .int .i64 f5] (fun k_ => k_ ≠ c9) (fun _ => False) rfl (by first | (go_simp; done) | (go_simp; rfl)) ?aP (fun _ hk => hk.elim) ?aF ?aO (Below.refl _ _) ?aS ?aL ?_; (case aP => exact k53_mkM _ _ _ (⟨e3, e5, e7, f5⟩ : S53)); (case aF => exact (fun k_ hk => Kd.freshB (g := c9) (o := .cells #[.int .i64 e3, .int .i64 e5, .int .i64 e7, .int .i64 f5] 53 (0, 0)) (by (repeat refine oneB ?_); refine yav (cs := #[.int .i64 e3, .int .i64 e5, .int .i64 e7, .int .i64 b3]) ?_ 3 _ rfl; refine yav (cs := #[.int .i64 e3, .int .i64 e5, .int .i64 b6, .int .i64 b3]) ?_ 2 _ rfl; refine yav (cs := #[.int .i64 e3, .int .i64 b8, .int .i64 b6, .int .i64 b3]) ?_ 1 _ rfl; refine yav (cs := #[.int .i64 c3, .int .i64 b8, .int .i64 b6, .int .i64 b3]) ?_ 0 _ rfl; exact upB b0.out) k_ hk)); (case aO => exact (by (with_reducible repeat (first | apply Kd.Q_alloc | apply Kd.Q_drewN | apply Kd.Q_drew)); exact yau (yay (p := ⟨c9, 3, none⟩) (yay (p := ⟨c9, 2, none⟩) (yay (p := ⟨c9, 1, none⟩) (yay (p := ⟨c9, 0, none⟩) (yau a3.out (fun k_ hk => (⟨hk, hk⟩ : _ ∧ k_ ≠ c9))) (fun _ hk => hk.2) (.int .i64 e3)) (fun _ hk => hk.2) (.int .i64 e5)) (fun _ hk => hk.2) (.int .i64 e7)) (fun _ hk => hk.2) (.int .i64 f5)) (fun _ hk => hk.1))); (case aS => exact (keep_size (w := w) (g := g) (row := none) (by repeat (with_reducible first | exact HK.out | apply yah | apply yal | apply yap | apply yam | refine yac ?_ b1.out _ | refine yac ?_ b2.out _ | refine yac ?_ b4.out _)))); (case aL => have := LMc23.out; omega); intro S2 w34 ho hb hg hat; rw [← Ny120.out] at ho; replace a8 := yaa (blk_grown (g := c6) (o := .cells #[.int .i64 0, .int .i64 0, .slice none 0 0] 25 (0, 0)) (by repeat (with_reducible first | exact a8.out | refine oneB ?_ | refine blk_far ?_ d0.out _)) hg (Kd.Q_ne a3.out a8.out (by decide))); replace a4 := yaa (blk_grown (g := c4) (o := .cells #[.int .i64 (wrap64 (1 + c5)), .int .i64 (wrap64 (1 + d2)), u107002] 25 (0, 0)) (by repeat (with_reducible first | exact a4.out | refine oneB ?_ | refine blk_far ?_ c7.out _)) hg (Kd.Q_ne a3.out a4.out (by decide))); replace b0 := yaa (blk_grown (g := c9) (o := .cells #[.int .i64 e3, .int .i64 e5, .int .i64 e7, .int .i64 f5] 53 (0, 0)) (by (repeat refine oneB ?_); refine yav (cs := #[.int .i64 e3, .int .i64 e5, .int .i64 e7, .int .i64 b3]) ?_ 3 _ rfl; refine yav (cs := #[.int .i64 e3, .int .i64 e5, .int .i64 b6, .int .i64 b3]) ?_ 2 _ rfl; refine yav (cs := #[.int .i64 e3, .int .i64 b8, .int .i64 b6, .int .i64 b3]) ?_ 1 _ rfl; refine yav (cs := #[.int .i64 c3, .int .i64 b8, .int .i64 b6, .int .i64 b3]) ?_ 0 _ rfl; exact upB b0.out) hg (Kd.Q_away a3.out (fun _ hk => hk))); replace HB := yaa (below_weaken (by repeat (with_reducible first | exact HB.out | apply yao | apply yaj | apply yan | refine yag ?_ (Aside0.out ‹_›) | refine yag ?_ (yas HI0.out))) HL.out hb); replace HI0 := yaa (IsS58.grown (yab (yab (yab (yab HI0.out a9.out _) a9.out _) a9.out _) a9.out _) hg (IsS58.own_neQ HI0.out a3.out (by decide))); replace HK := yaa (yaq (by repeat (with_reducible first | exact HK.out | apply yah | apply yal | apply yap | apply yam | refine yac ?_ b1.out _ | refine yac ?_ b2.out _ | refine yac ?_ b4.out _)) (KeepBut.of_grown hg g) (Kd.Q_base2 a3.out)); have k9 := yaa (ho); clear a3; clear ho hb hg hat; obtain ⟨m7, m8, H3, _⟩ := Kd.Q_slice k9.out; subst H3; obtain ⟨z2, z3, z4⟩ := cc3_ a4.out; obtain ⟨z5, z6⟩ := cf2_ a4.out; have z7 := blk_frozen a4.out 2))
      go_roundg k1
      case measure => have := HK1.out; omega
      case rel => exact ⟨(wrap64 (f4 + 1)), (m0), (y120), (e3), (e5), (e7), (f5), (.slice m7 y120.length m8), (by first | rfl | (simp; done) | (simp [*]; done)), H', ⟨by have := HK1.out; omega⟩, ⟨by (with_reducible repeat (first | apply Kd.Q_alloc | apply Kd.Q_drewN | apply Kd.Q_drew)); exact yau (yay (p := ⟨c4, 2, none⟩) (Kd.Q_types k9.out a4.out (by decide)) (fun _ hk => hk.2) (.slice m7 y120.length m8)) (fun _ hk => hk.1)⟩, ⟨by repeat (with_reducible first | exact a8.out | refine oneB ?_ | refine blk_far ?_ c0.out _)⟩, ⟨by (repeat refine oneB ?_); refine yav (cs := #[.int .i64 (wrap64 (1 + c5)), .int .i64 (wrap64 (1 + d2)), u107002]) ?_ 2 _ rfl; exact upB a4.out⟩, ⟨by repeat (with_reducible first | exact b0.out | refine oneB ?_ | refine blk_far ?_ d1.out _)⟩, ⟨by repeat (with_reducible first | exact HI0.out | apply yad | apply yae | apply yai | apply yaf | refine yab ?_ a6.out _ | refine yab ?_ a7.out _ | refine yab ?_ a9.out _)⟩, ⟨by repeat (with_reducible first | exact HK.out | apply yah | apply yal | apply yap | apply yam | refine yac ?_ b1.out _ | refine yac ?_ b2.out _ | refine yac ?_ b4.out _)⟩, ⟨by repeat (with_reducible first | exact HB.out | apply yao | apply yaj | apply yan | refine yag ?_ (Aside0.out ‹_›) | refine yag ?_ (yas HI0.out))⟩⟩
     ·
      rw [if_neg c23] at H
      exact absurd H (by simp)
    ·
     rw [if_neg c21] at H
     have m6 : decide (0 < h4) = false := decide_eq_false c21; clear c21
     by_cases c37 : a5.length < 4398046511104
     ·
      rw [if_pos c37] at H
      have LMc37 := yaa c37; clear c37; obtain ⟨y123, hy123⟩ : ∃ y_ : List (S53), y_ = (a5 ++ [(⟨c3, b8, b6, b3⟩ : S53)]) := ⟨_, rfl⟩
      replace H : (spec_l20Ras.l0 k1 a1 (wrap64 (f4 + 1)) s0_0 h2 (wrap64 (1 + c5)) (wrap64 (1 + d2)) y123 c3 b8 b6 b3) = some (r1, r2, r3, r4) := by first | (rw [hy123]; with_reducible exact H) | (have H2_ := (Option.bind_some _ _).symm.trans H; rw [hy123]; with_reducible exact H2_) | (have H2_ := (Option.bind_some _ _).symm.trans H; with_reducible exact H2_) | with_reducible exact H | (rw [hy123]; exact H) | exact H
      have Ny123 := yaa hy123; clear hy123; have H' := yaa H; clear H; have N5 := d5.out; have N6 := c0.out; have N7 := c7.out; have N8 := d1.out; have N9 := b5.out; have O0 := a7.out; obtain ⟨z8, z9, A0⟩ := cc3_ a4.out; obtain ⟨A2, A6, A7⟩ := cf3_ a4.out
      go_wp2_with (first | ((with_reducible refine gc_ 14 rfl ?_); refine gl_ (some 27) rfl Try.func14 #[.pointer (some ⟨g, 0, none⟩), .int .i64 3] ?_; (with_reducible refine (spec_l20Rd_pick.calls k1 g s0_0 c8 3 h4 h2 w0 _ ?side1 ?side2 A20.out).mono ?_); (case side1 => repeat (with_reducible first | exact HI0.out | apply yad | apply yae | apply yai | apply yaf | refine yab ?_ a6.out _ | refine yab ?_ a7.out _ | refine yab ?_ a9.out _)); (case side2 => repeat (with_reducible first | exact HB.out | apply yao | apply yaj | apply yan | refine yag ?_ (Aside0.out ‹_›) | refine yag ?_ (yas HI0.out))); rintro e w42 ⟨rfl, hi, hb, hk⟩; refine ⟨_, rfl, ?_⟩; replace a3 := yaa (yau (yax (yat (show IsS58 w0 _ g s0_0 c8 from by repeat (with_reducible first | exact HI0.out | apply yad | apply yae | apply yai | apply yaf | refine yab ?_ a6.out _ | refine yab ?_ a7.out _ | refine yab ?_ a9.out _)) (upQ a3.out) (by decide)) hk (fun _ h => h.2)) (fun _ h => h.1)); replace a8 := yaa (yak hk (upB a8.out) b7.out (by simp)); replace a4 := yaa (yak hk (upB a4.out) b5.out (by simp)); replace b0 := yaa (yak hk (upB b0.out) b9.out (by simp)); replace HK := yaa (yaq (by repeat (with_reducible first | exact HK.out | apply yah | apply yal | apply yap | apply yam | refine yac ?_ b1.out _ | refine yac ?_ b2.out _ | refine yac ?_ b4.out _)) hk (.inl rfl)); replace HB := yaa (hb); replace HI0 := yaa (hi); (try clear hb hk hi); obtain ⟨A8, A9, B0⟩ := cc3_ a4.out; obtain ⟨B1, B2, B3⟩ := cf3_ a4.out; have O1 := d6.out; have O2 := d0.out; have O3 := b9.out; have O4 := a9.out; obtain ⟨B4, B5, B6, B7⟩ := cc4_ b0.out; obtain ⟨B8, B9, C0⟩ := cf3_ b0.out; have C1 := blk_frozen b0.out 3) | ((with_reducible refine gate_builtin (b := .append) (xs := #[.tmp 32, .tmp 34]) rfl ?_); at_builtin; refine Kd.Q_append k53 w.heap.size rfl (.tmp 32) (.tmp 34) 23 53 (.agg #[(.int .i64 0), (.int .i64 0), (.int .i64 0), (.int .i64 0)]) 32 rfl Try.underlying23 info53 rfl (by decide) (by omega) u107002 a5 (⟨c3, b8, b6, b3⟩ : S53) [.int .i64 c3, .int .i64 b8, .int .i64 b6, .int .i64 b3] (fun k_ => k_ ≠ c9) (fun _ => False) rfl rfl ?aP (fun _ hk => hk.elim) ?aF ?aO (Below.refl _ _) ?aS ?aL ?_; (case aP => exact k53_mkM _ _ _ (⟨c3, b8, b6, b3⟩ : S53)); (case aF => exact (fun k_ hk => Kd.freshB (upB b0.out) k_ hk)); (case aO => exact (upQ a3.out)); (case aS => exact (keep_size (w := w) (g := g) (row := none) (by repeat (with_reducible first | exact HK.out | apply yah | apply yal | apply yap | apply yam | refine yac ?_ b1.out _ | refine yac ?_ b2.out _ | refine yac ?_ b4.out _)))); (case aL => have := LMc37.out; omega); intro S3 w47 ho hb hg hat; rw [← Ny123.out] at ho; replace a8 := yaa (blk_grown (upB a8.out) hg (Kd.Q_ne a3.out a8.out (by decide))); replace a4 := yaa (blk_grown (upB a4.out) hg (Kd.Q_ne a3.out a4.out (by decide))); replace b0 := yaa (blk_grown (upB b0.out) hg (Kd.Q_away a3.out (fun _ hk => hk))); replace HB := yaa (below_weaken (by repeat (with_reducible first | exact HB.out | apply yao | apply yaj | apply yan | refine yag ?_ (Aside0.out ‹_›) | refine yag ?_ (yas HI0.out))) HL.out hb); replace HI0 := yaa (IsS58.grown (by repeat (with_reducible first | exact HI0.out | apply yad | apply yae | apply yai | apply yaf | refine yab ?_ a6.out _ | refine yab ?_ a7.out _ | refine yab ?_ a9.out _)) hg (IsS58.own_neQ HI0.out a3.out (by decide))); replace HK := yaa (yaq (by repeat (with_reducible first | exact HK.out | apply yah | apply yal | apply yap | apply yam | refine yac ?_ b1.out _ | refine yac ?_ b2.out _ | refine yac ?_ b4.out _)) (KeepBut.of_grown hg g) (Kd.Q_base2 a3.out)); have l1 := yaa (ho); clear a3; clear ho hb hg hat; obtain ⟨m9, n0, H4, _⟩ := Kd.Q_slice l1.out; subst H4; obtain ⟨C2, C3, C4⟩ := cc3_ a4.out; obtain ⟨C5, C6⟩ := cf2_ a4.out; have C7 := blk_frozen a4.out 2))
      go_roundg k1
      case measure => have := HK1.out; omega
      case rel => exact ⟨(wrap64 (f4 + 1)), (h2), (y123), (c3), (b8), (b6), (b3), (.slice m9 y123.length n0), (by first | rfl | (simp; done) | (simp [*]; done)), H', ⟨by have := HK1.out; omega⟩, ⟨by (with_reducible repeat (first | apply Kd.Q_alloc | apply Kd.Q_drewN | apply Kd.Q_drew)); exact yau (yay (p := ⟨c4, 2, none⟩) (Kd.Q_types l1.out a4.out (by decide)) (fun _ hk => hk.2) (.slice m9 y123.length n0)) (fun _ hk => hk.1)⟩, ⟨by repeat (with_reducible first | exact a8.out | refine oneB ?_ | refine blk_far ?_ c0.out _)⟩, ⟨by (repeat refine oneB ?_); refine yav (cs := #[.int .i64 (wrap64 (1 + c5)), .int .i64 (wrap64 (1 + d2)), u107002]) ?_ 2 _ rfl; exact upB a4.out⟩, ⟨by repeat (with_reducible first | exact b0.out | refine oneB ?_ | refine blk_far ?_ d1.out _)⟩, ⟨by repeat (with_reducible first | exact HI0.out | apply yad | apply yae | apply yai | apply yaf | refine yab ?_ a6.out _ | refine yab ?_ a7.out _ | refine yab ?_ a9.out _)⟩, ⟨by repeat (with_reducible first | exact HK.out | apply yah | apply yal | apply yap | apply yam | refine yac ?_ b1.out _ | refine yac ?_ b2.out _ | refine yac ?_ b4.out _)⟩, ⟨by repeat (with_reducible first | exact HB.out | apply yao | apply yaj | apply yan | refine yag ?_ (Aside0.out ‹_›) | refine yag ?_ (yas HI0.out))⟩⟩
     ·
      rw [if_neg c37] at H
      exact absurd H (by simp)
   ·
    rw [if_neg c19] at H
    have m5 : decide (f4 < (wrap64 ((wrap64 (1 + c5)) * (wrap64 (1 + d2))))) = false := decide_eq_false c19; clear c19; obtain ⟨⟨H5, e6⟩, A50, H⟩ := bindA H; (try dsimp only at H)
    by_cases c51 : H5 = true
    ·
     subst c51
     rw [if_pos rfl] at H
     obtain ⟨⟨g6, d8⟩, A52, H⟩ := bindA H; (try dsimp only at H)
     by_cases c53 : g6 = 0
     ·
      rw [if_pos c53] at H
      have n1 := beq_iff_eq.mpr c53; have n2 := bne_eq_false_iff_eq.mpr c53; clear c53; obtain ⟨y130, hy130⟩ : ∃ y_ : List Int, y_ = (([0, (-1), 7, wrap64 ((wrap64 (1 + c5)) + 1)] : List Int)) := ⟨_, rfl⟩
      replace H : ((spec_l20Rd_pick.f k1 s0_0 d8 4).bind fun g8 => (if 0 ≤ g8.1 then (if g8.1 < (y130.length : Int) then (some (rd y130 g8.1, (wrap64 (1 + d2)), a5, g8.2)) else (none)) else (none))) = some (r1, r2, r3, r4) := by first | (rw [hy130]; with_reducible exact H) | (have H2_ := (Option.bind_some _ _).symm.trans H; rw [hy130]; with_reducible exact H2_) | (have H2_ := (Option.bind_some _ _).symm.trans H; with_reducible exact H2_) | with_reducible exact H | (rw [hy130]; exact H) | exact H
      have Ny130 := yaa hy130; clear hy130; obtain ⟨⟨e4, j8⟩, A54, H⟩ := bindA H; (try dsimp only at H)
      by_cases c55 : 0 ≤ e4
      ·
       rw [if_pos c55] at H
       replace c55 := decide_eq_true c55
       by_cases c56 : e4 < (y130.length : Int)
       ·
        rw [if_pos c56] at H
        replace c56 := decide_eq_true c56
        simp only [Option.some.injEq, Prod.mk.injEq] at H
        obtain ⟨rfl, rfl, rfl, rfl⟩ := H; have O5 := d5.out; have O6 := c0.out; have O7 := c7.out; have O8 := d1.out; have O9 := b5.out; have P0 := a7.out; obtain ⟨C8, C9, D0⟩ := cc3_ a4.out; obtain ⟨D1, D2, D3⟩ := cf3_ a4.out
        try go_wp2_with (first | ((with_reducible refine gc_ 13 rfl ?_); refine gl_ (some 39) rfl Try.func13 #[.pointer (some ⟨g, 0, none⟩), .int .i64 a1] ?_; (with_reducible refine (spec_l20Rd_odd.calls k1 g s0_0 c8 a1 true e6 w0 _ ?side1 ?side2 A50.out).mono ?_); (case side1 => repeat (with_reducible first | exact HI0.out | apply yad | apply yae | apply yai | apply yaf | refine yab ?_ a6.out _ | refine yab ?_ a7.out _ | refine yab ?_ a9.out _)); (case side2 => repeat (with_reducible first | exact HB.out | apply yao | apply yaj | apply yan | refine yag ?_ (Aside0.out ‹_›) | refine yag ?_ (yas HI0.out))); rintro e w61 ⟨rfl, hi, hb, hk⟩; refine ⟨_, rfl, ?_⟩; replace a3 := yaa (yau (yax (yat (show IsS58 w0 _ g s0_0 c8 from by repeat (with_reducible first | exact HI0.out | apply yad | apply yae | apply yai | apply yaf | refine yab ?_ a6.out _ | refine yab ?_ a7.out _ | refine yab ?_ a9.out _)) (upQ a3.out) (by decide)) hk (fun _ h => h.2)) (fun _ h => h.1)); replace a8 := yaa (yak hk (upB a8.out) b7.out (by simp)); replace a4 := yaa (yak hk (upB a4.out) b5.out (by simp)); replace b0 := yaa (yak hk (upB b0.out) b9.out (by simp)); replace HK := yaa (yaq (by repeat (with_reducible first | exact HK.out | apply yah | apply yal | apply yap | apply yam | refine yac ?_ b1.out _ | refine yac ?_ b2.out _ | refine yac ?_ b4.out _)) hk (.inl rfl)); replace HB := yaa (hb); replace HI0 := yaa (hi); (try clear hb hk hi)) | ((with_reducible refine gc_ 14 rfl ?_); refine gl_ (some 41) rfl Try.func14 #[.pointer (some ⟨g, 0, none⟩), .int .i64 4] ?_; (with_reducible refine (spec_l20Rd_pick.calls k1 g s0_0 e6 4 g6 d8 w0 _ ?side1 ?side2 A52.out).mono ?_); (case side1 => repeat (with_reducible first | exact HI0.out | apply yad | apply yae | apply yai | apply yaf | refine yab ?_ a6.out _ | refine yab ?_ a7.out _ | refine yab ?_ a9.out _)); (case side2 => repeat (with_reducible first | exact HB.out | apply yao | apply yaj | apply yan | refine yag ?_ (Aside0.out ‹_›) | refine yag ?_ (yas HI0.out))); rintro e w62 ⟨rfl, hi, hb, hk⟩; refine ⟨_, rfl, ?_⟩; replace a3 := yaa (yau (yax (yat (show IsS58 w0 _ g s0_0 e6 from by repeat (with_reducible first | exact HI0.out | apply yad | apply yae | apply yai | apply yaf | refine yab ?_ a6.out _ | refine yab ?_ a7.out _ | refine yab ?_ a9.out _)) (upQ a3.out) (by decide)) hk (fun _ h => h.2)) (fun _ h => h.1)); replace a8 := yaa (yak hk (upB a8.out) b7.out (by simp)); replace a4 := yaa (yak hk (upB a4.out) b5.out (by simp)); replace b0 := yaa (yak hk (upB b0.out) b9.out (by simp)); replace HK := yaa (yaq (by repeat (with_reducible first | exact HK.out | apply yah | apply yal | apply yap | apply yam | refine yac ?_ b1.out _ | refine yac ?_ b2.out _ | refine yac ?_ b4.out _)) hk (.inl rfl)); replace HB := yaa (hb); replace HI0 := yaa (hi); (try clear hb hk hi)))
        have pi135 : (0 ≤ (e4 : Int)) = True := eq_true (of_decide_eq_true (by assumption)); have qi135 : (e4 < (y130.length : Int)) = True := eq_true (of_decide_eq_true (by assumption)); replace a3 := yaa (Kd.Q_drew a3.out); replace a8 := yaa (blk_drew a8.out); replace a4 := yaa (blk_drew a4.out); replace b0 := yaa (blk_drew b0.out); replace HI0 := yaa (yai HI0.out); replace HK := yaa (yap HK.out); replace HB := yaa (yan HB.out)
        refine start_ (n := 10) (S := fun w' => w'.cell? ⟨c4, 0, none⟩ = some (.int .i64 (wrap64 (1 + c5))) ∧ w'.cell? ⟨c4, 1, none⟩ = some (.int .i64 (wrap64 (1 + d2))) ∧ w'.cell? ⟨c4, 2, none⟩ = some (u107002)) (ds := [9]) q16_0 (by kernel_rfl) rfl rfl ⟨(yar a4.out 0).trans rfl, (yar a4.out 1).trans rfl, (yar a4.out 2).trans rfl⟩ (fun hHeld => ?_); refine with_tabW spec_l20Ras.tab13 spec_l20Ras.bits13 (fun HT_ HW_ => ?_)
        generalize w62.drew = w63 at a3 a8 a4 b0 HI0 HK HB hHeld ⊢
        refine pz_ 0 58 q16_1 HT_ (by kernel_rfl) ?_
        refine pz_ 4 62 q16_2 HT_ (by kernel_rfl) ?_
        refine tz_ 1 59 q16_3 HT_ HW_ (by kernel_rfl) hHeld ?_
        refine pz_ 2 60 q16_4 HT_ (by kernel_rfl) ?_
        refine join_ (σ := Value × Addr) 4 q16_5 (fun s_ => [(61, s_.1), (63, .int .i64 e4)]) (fun s_ w' => (w'.cell? ⟨c4, 0, none⟩ = some (.int .i64 (wrap64 (1 + c5))) ∧ w'.cell? ⟨c4, 1, none⟩ = some (.int .i64 (wrap64 (1 + d2))) ∧ w'.cell? ⟨c4, 2, none⟩ = some (u107002)) ∧ (Kd.R (Kd.int .i64) 3 w' w.heap.size (fun _ => True) s_.1 y130) ∧ (Kd.Q k53 53 w' w.heap.size (fun k_ => k_ ≠ c9) u107002 a5) ∧ (∃ c_, (s_.1 : Value) = .slice (some s_.2) y130.length c_) ∧ (w'.heap[c6]? = some (.cells #[.int .i64 0, .int .i64 0, .slice none 0 0] 25 (0, 0))) ∧ (w'.heap[c4]? = some (.cells #[.int .i64 (wrap64 (1 + c5)), .int .i64 (wrap64 (1 + d2)), u107002] 25 (0, 0))) ∧ (w'.heap[c9]? = some (.cells #[.int .i64 c3, .int .i64 b8, .int .i64 b6, .int .i64 b3] 53 (0, 0))) ∧ (IsS58 w0 w' g s0_0 j8) ∧ (KeepBut w w' g none) ∧ (Below w0.heap.size w0 w')) ?_ ?_
        rotate_left
        ·
         intro hCont
         refine two_ (i := 3) (j := 5) (Ni := some 61) (Nj := some 63) q16_6 q16_7 rfl rfl rfl rfl (two_of HT_.out (by kernel_rfl)) (by decide) (by decide) (fun K hK => ?_) (fun K hK => ?_)
         ·
          skip
          refine Kd.R_lit_step (Kd.int .i64) _ 3 ?hg (N := 61) ?hd (xs := ([0, (-1), 7, wrap64 ((wrap64 (1 + c5)) + 1)] : List Int)) (inner := [.int .i64 0, .int .i64 (-1), .int .i64 7, .int .i64 (wrap64 ((wrap64 (1 + c5)) + 1))]) (ok := fun _ => True) (okp := fun _ => True) ?hr ?hp (fun _ hk => hk) trivial (Below.refl _ _) (Nat.le_refl _) (by simp) ?_; (case hd => rfl); (case hg => rfl); (case hr => first | (go_simp; done) | (go_simp; rfl)); (case hp => exact (Reps.one (show Kd.M (Kd.int .i64) _ _ _ 0 [.int .i64 0] from rfl) (Reps.one (show Kd.M (Kd.int .i64) _ _ _ (-1) [.int .i64 (-1)] from rfl) (Reps.one (show Kd.M (Kd.int .i64) _ _ _ 7 [.int .i64 7] from rfl) (Reps.one (show Kd.M (Kd.int .i64) _ _ _ (wrap64 ((wrap64 (1 + c5)) + 1)) [.int .i64 (wrap64 ((wrap64 (1 + c5)) + 1))] from rfl) (Reps.none _ _))))))
          intro j9 w64 h5 hb hg_ hnew_; clear hg_ hnew_
          (first | rw [← Ny130.out] at h5 | (simp only [Int.reduceToNat] at h5; rw [← Ny130.out] at h5))
          have n0_ := yaa (Kd.Q_below (upQ a3.out) hb)
          have n1_ := yaa (Kd.R_lower h5 (keep_size (w := w) (g := g) (row := none) (by repeat (with_reducible first | exact HK.out | apply yah | apply yal | apply yap | apply yam | refine yac ?_ b1.out _ | refine yac ?_ b2.out _ | refine yac ?_ b4.out _))))
          have n2_ := yaa (yaw (upB a8.out) hb); have n3_ := yaa (yaw (upB a4.out) hb); have n4_ := yaa (yaw (upB b0.out) hb)
          have n5_ := yaa (IsS58.below (by repeat (with_reducible first | exact HI0.out | apply yad | apply yae | apply yai | apply yaf | refine yab ?_ a6.out _ | refine yab ?_ a7.out _ | refine yab ?_ a9.out _)) hb)
          have n6_ := yaa (yaq (by repeat (with_reducible first | exact HK.out | apply yah | apply yal | apply yap | apply yam | refine yac ?_ b1.out _ | refine yac ?_ b2.out _ | refine yac ?_ b4.out _)) (yaz hb g none) (.inl rfl))
          have n7_ := yaa (below_step (by repeat (with_reducible first | exact HB.out | apply yao | apply yaj | apply yan | refine yag ?_ (Aside0.out ‹_›) | refine yag ?_ (yas HI0.out))) hb)
          clear a3; clear a8; clear a4; clear b0; clear HI0; clear HK; clear HB; have a3 := n0_; have d9 := n1_; have a8 := n2_; have a4 := n3_; have b0 := n4_; have HI0 := n5_; have HK := n6_; have HB := n7_; clear n0_ n1_ n2_ n3_ n4_ n5_ n6_ n7_; clear hb h5; obtain ⟨S4, H6, H7⟩ := Kd.R_slice d9.out; subst H7; obtain ⟨ado66, fo66, _⟩ := Kd.at_int (Kd.R_reads' d9.out).2.2 0 (by decide) (by rw [Ny130.out]; simp)
          cases fo66
          refine hK.out _ _ ⟨(yar a4.out 0).trans rfl, (yar a4.out 1).trans rfl, (yar a4.out 2).trans rfl⟩ (fun hHeld => ?_)
          clear hK K
          refine norm_ (a' := ?_) ?_ ?_
          rotate_left
          ·
           show Act.put _ (some 61) _ = _
           simp only [Act.put, List.setIfInBounds_toArray, List.set_cons_zero, List.set_cons_succ, i64_w, i32_w]
           rfl
          refine one_ (i := 5) (N := some 63) q16_5 rfl rfl (one_of HT_.out (by kernel_rfl)) (by decide) (fun K hK => ?_)
          refine goes_ Try.func14 (by kernel_rfl) rfl #[.pointer (some ⟨g, 0, none⟩), .int .i64 4] (by rfl) rfl rfl (by (try simp only [List.map_toArray, List.map_cons, List.map_nil]); first | done | rfl | (simp only [List.length_drop, List.length_take]; rfl)) ?_
          with_reducible refine (spec_l20Rd_pick.calls k1 g s0_0 d8 4 e4 j8 w0 _ ?side1 ?side2 A54.out).mono ?_
          (case side1 => repeat (with_reducible first | exact HI0.out | apply yad | apply yae | apply yai | apply yaf | refine yab ?_ a6.out _ | refine yab ?_ a7.out _ | refine yab ?_ a9.out _))
          (case side2 => repeat (with_reducible first | exact HB.out | apply yao | apply yaj | apply yan | refine yag ?_ (Aside0.out ‹_›) | refine yag ?_ (yas HI0.out)))
          rintro e w67 ⟨rfl, hi, hb, hk⟩; refine ⟨_, rfl, ?_⟩
          have n0_ := yaa (yau (yax (yat (show IsS58 w0 _ g s0_0 d8 from by repeat (with_reducible first | exact HI0.out | apply yad | apply yae | apply yai | apply yaf | refine yab ?_ a6.out _ | refine yab ?_ a7.out _ | refine yab ?_ a9.out _)) (upQ a3.out) (by decide)) hk (fun _ h => h.2)) (fun _ h => h.1))
          have n1_ := yaa (yak hk (upB a8.out) b7.out (by simp)); have n2_ := yaa (yak hk (upB a4.out) b5.out (by simp)); have n3_ := yaa (yak hk (upB b0.out) b9.out (by simp))
          have n4_ := yaa (Kd.R_mono (Kd.R_keep (IsS58.apart (show IsS58 w0 _ g s0_0 d8 from by repeat (with_reducible first | exact HI0.out | apply yad | apply yae | apply yai | apply yaf | refine yab ?_ a6.out _ | refine yab ?_ a7.out _ | refine yab ?_ a9.out _)) (upR d9.out) (by decide)) hk (fun _ h => h.2)) (fun _ h => h.1))
          have n5_ := yaa (yaq (by repeat (with_reducible first | exact HK.out | apply yah | apply yal | apply yap | apply yam | refine yac ?_ b1.out _ | refine yac ?_ b2.out _ | refine yac ?_ b4.out _)) hk (.inl rfl))
          have n6_ := yaa (hb); have n7_ := yaa (hi); clear a3; clear a8; clear a4; clear b0; clear d9; clear HK; clear HB; clear HI0; have a3 := n0_; have a8 := n1_; have a4 := n2_; have b0 := n3_; have d9 := n4_; have HK := n5_; have HB := n6_; have HI0 := n7_; clear n0_ n1_ n2_ n3_ n4_ n5_ n6_ n7_; (try clear hb); (try clear hb2); (try clear hk); (try clear hi)
          refine hK.out _ _ ⟨(yar a4.out 0).trans rfl, (yar a4.out 1).trans rfl, (yar a4.out 2).trans rfl⟩ (fun hHeld => ?_)
          clear hK K
          refine norm_ (a' := ?_) ?_ ?_
          rotate_left
          ·
           show Act.put _ (some 63) _ = _
           simp only [Act.put, List.setIfInBounds_toArray, List.set_cons_zero, List.set_cons_succ, i64_w, i32_w]
           rfl
          exact norm_ (by simp only [putAll, Act.put, List.setIfInBounds_toArray, List.set_cons_zero, List.set_cons_succ]) (hCont (.slice (some ado66) y130.length H6, ado66) _ ⟨hHeld, (upR d9.out), (upQ a3.out), ⟨_, rfl⟩, (upB a8.out), (upB a4.out), (upB b0.out), (by repeat (with_reducible first | exact HI0.out | apply yad | apply yae | apply yai | apply yaf | refine yab ?_ a6.out _ | refine yab ?_ a7.out _ | refine yab ?_ a9.out _)), (by repeat (with_reducible first | exact HK.out | apply yah | apply yal | apply yap | apply yam | refine yac ?_ b1.out _ | refine yac ?_ b2.out _ | refine yac ?_ b4.out _)), (by repeat (with_reducible first | exact HB.out | apply yao | apply yaj | apply yan | refine yag ?_ (Aside0.out ‹_›) | refine yag ?_ (yas HI0.out)))⟩)
         ·
          skip
          refine goes_ Try.func14 (by kernel_rfl) rfl #[.pointer (some ⟨g, 0, none⟩), .int .i64 4] (by rfl) rfl rfl (by (try simp only [List.map_toArray, List.map_cons, List.map_nil]); first | done | rfl | (simp only [List.length_drop, List.length_take]; rfl)) ?_
          with_reducible refine (spec_l20Rd_pick.calls k1 g s0_0 d8 4 e4 j8 w0 _ ?side1 ?side2 A54.out).mono ?_
          (case side1 => repeat (with_reducible first | exact HI0.out | apply yad | apply yae | apply yai | apply yaf | refine yab ?_ a6.out _ | refine yab ?_ a7.out _ | refine yab ?_ a9.out _))
          (case side2 => repeat (with_reducible first | exact HB.out | apply yao | apply yaj | apply yan | refine yag ?_ (Aside0.out ‹_›) | refine yag ?_ (yas HI0.out)))
          rintro e w64 ⟨rfl, hi, hb, hk⟩; refine ⟨_, rfl, ?_⟩
          have n0_ := yaa (yau (yax (yat (show IsS58 w0 _ g s0_0 d8 from by repeat (with_reducible first | exact HI0.out | apply yad | apply yae | apply yai | apply yaf | refine yab ?_ a6.out _ | refine yab ?_ a7.out _ | refine yab ?_ a9.out _)) (upQ a3.out) (by decide)) hk (fun _ h => h.2)) (fun _ h => h.1))
          have n1_ := yaa (yak hk (upB a8.out) b7.out (by simp)); have n2_ := yaa (yak hk (upB a4.out) b5.out (by simp)); have n3_ := yaa (yak hk (upB b0.out) b9.out (by simp))
          have n4_ := yaa (yaq (by repeat (with_reducible first | exact HK.out | apply yah | apply yal | apply yap | apply yam | refine yac ?_ b1.out _ | refine yac ?_ b2.out _ | refine yac ?_ b4.out _)) hk (.inl rfl))
          have n5_ := yaa (hb); have n6_ := yaa (hi); clear a3; clear a8; clear a4; clear b0; clear HK; clear HB; clear HI0; have a3 := n0_; have a8 := n1_; have a4 := n2_; have b0 := n3_; have HK := n4_; have HB := n5_; have HI0 := n6_; clear n0_ n1_ n2_ n3_ n4_ n5_ n6_; (try clear hb); (try clear hb2); (try clear hk); (try clear hi)
          refine hK.out _ _ ⟨(yar a4.out 0).trans rfl, (yar a4.out 1).trans rfl, (yar a4.out 2).trans rfl⟩ (fun hHeld => ?_)
          clear hK K
          refine norm_ (a' := ?_) ?_ ?_
          rotate_left
          ·
           show Act.put _ (some 63) _ = _
           simp only [Act.put, List.setIfInBounds_toArray, List.set_cons_zero, List.set_cons_succ, i64_w, i32_w]
           rfl
          refine one_ (i := 3) (N := some 61) q16_5 rfl rfl (one_of HT_.out (by kernel_rfl)) (by decide) (fun K hK => ?_)
          refine Kd.R_lit_step (Kd.int .i64) _ 3 ?hg (N := 61) ?hd (xs := ([0, (-1), 7, wrap64 ((wrap64 (1 + c5)) + 1)] : List Int)) (inner := [.int .i64 0, .int .i64 (-1), .int .i64 7, .int .i64 (wrap64 ((wrap64 (1 + c5)) + 1))]) (ok := fun _ => True) (okp := fun _ => True) ?hr ?hp (fun _ hk => hk) trivial (Below.refl _ _) (Nat.le_refl _) (by simp) ?_; (case hd => rfl); (case hg => rfl); (case hr => first | (go_simp; done) | (go_simp; rfl)); (case hp => exact (Reps.one (show Kd.M (Kd.int .i64) _ _ _ 0 [.int .i64 0] from rfl) (Reps.one (show Kd.M (Kd.int .i64) _ _ _ (-1) [.int .i64 (-1)] from rfl) (Reps.one (show Kd.M (Kd.int .i64) _ _ _ 7 [.int .i64 7] from rfl) (Reps.one (show Kd.M (Kd.int .i64) _ _ _ (wrap64 ((wrap64 (1 + c5)) + 1)) [.int .i64 (wrap64 ((wrap64 (1 + c5)) + 1))] from rfl) (Reps.none _ _))))))
          intro j9 w65 h6 hb hg_ hnew_; clear hg_ hnew_
          (first | rw [← Ny130.out] at h6 | (simp only [Int.reduceToNat] at h6; rw [← Ny130.out] at h6))
          have n0_ := yaa (Kd.Q_below (upQ a3.out) hb)
          have n1_ := yaa (Kd.R_lower h6 (keep_size (w := w) (g := g) (row := none) (by repeat (with_reducible first | exact HK.out | apply yah | apply yal | apply yap | apply yam | refine yac ?_ b1.out _ | refine yac ?_ b2.out _ | refine yac ?_ b4.out _))))
          have n2_ := yaa (yaw (upB a8.out) hb); have n3_ := yaa (yaw (upB a4.out) hb); have n4_ := yaa (yaw (upB b0.out) hb)
          have n5_ := yaa (IsS58.below (by repeat (with_reducible first | exact HI0.out | apply yad | apply yae | apply yai | apply yaf | refine yab ?_ a6.out _ | refine yab ?_ a7.out _ | refine yab ?_ a9.out _)) hb)
          have n6_ := yaa (yaq (by repeat (with_reducible first | exact HK.out | apply yah | apply yal | apply yap | apply yam | refine yac ?_ b1.out _ | refine yac ?_ b2.out _ | refine yac ?_ b4.out _)) (yaz hb g none) (.inl rfl))
          have n7_ := yaa (below_step (by repeat (with_reducible first | exact HB.out | apply yao | apply yaj | apply yan | refine yag ?_ (Aside0.out ‹_›) | refine yag ?_ (yas HI0.out))) hb)
          clear a3; clear a8; clear a4; clear b0; clear HI0; clear HK; clear HB; have a3 := n0_; have d9 := n1_; have a8 := n2_; have a4 := n3_; have b0 := n4_; have HI0 := n5_; have HK := n6_; have HB := n7_; clear n0_ n1_ n2_ n3_ n4_ n5_ n6_ n7_; clear hb h6; obtain ⟨S5, H8, H9⟩ := Kd.R_slice d9.out; subst H9; obtain ⟨ado67, fo67, _⟩ := Kd.at_int (Kd.R_reads' d9.out).2.2 0 (by decide) (by rw [Ny130.out]; simp)
          cases fo67
          refine hK.out _ _ ⟨(yar a4.out 0).trans rfl, (yar a4.out 1).trans rfl, (yar a4.out 2).trans rfl⟩ (fun hHeld => ?_)
          clear hK K
          refine norm_ (a' := ?_) ?_ ?_
          rotate_left
          ·
           show Act.put _ (some 61) _ = _
           simp only [Act.put, List.setIfInBounds_toArray, List.set_cons_zero, List.set_cons_succ, i64_w, i32_w]
           rfl
          exact norm_ (by simp only [putAll, Act.put, List.setIfInBounds_toArray, List.set_cons_zero, List.set_cons_succ]) (hCont (.slice (some ado67) y130.length H8, ado67) _ ⟨hHeld, (upR d9.out), (upQ a3.out), ⟨_, rfl⟩, (upB a8.out), (upB a4.out), (upB b0.out), (by repeat (with_reducible first | exact HI0.out | apply yad | apply yae | apply yai | apply yaf | refine yab ?_ a6.out _ | refine yab ?_ a7.out _ | refine yab ?_ a9.out _)), (by repeat (with_reducible first | exact HK.out | apply yah | apply yal | apply yap | apply yam | refine yac ?_ b1.out _ | refine yac ?_ b2.out _ | refine yac ?_ b4.out _)), (by repeat (with_reducible first | exact HB.out | apply yao | apply yaj | apply yan | refine yag ?_ (Aside0.out ‹_›) | refine yag ?_ (yas HI0.out)))⟩)
        rintro ⟨j9, f9⟩ w68 ⟨hS_, h0_, h1_, h2_, h3_, h4_, h5_, h6_, h7_, h8_⟩; have n0_ : yba (Kd.R (Kd.int .i64) 3 w68 w.heap.size (fun _ => True) j9 y130) := ⟨h0_⟩; have n1_ : yba (Kd.Q k53 53 w68 w.heap.size (fun k_ => k_ ≠ c9) u107002 a5) := ⟨h1_⟩; have n2_ : yba (∃ c_, (j9 : Value) = .slice (some f9) y130.length c_) := ⟨h2_⟩; have n3_ : yba (w68.heap[c6]? = some (.cells #[.int .i64 0, .int .i64 0, .slice none 0 0] 25 (0, 0))) := ⟨h3_⟩; have n4_ : yba (w68.heap[c4]? = some (.cells #[.int .i64 (wrap64 (1 + c5)), .int .i64 (wrap64 (1 + d2)), u107002] 25 (0, 0))) := ⟨h4_⟩; have n5_ : yba (w68.heap[c9]? = some (.cells #[.int .i64 c3, .int .i64 b8, .int .i64 b6, .int .i64 b3] 53 (0, 0))) := ⟨h5_⟩; have n6_ : yba (IsS58 w0 w68 g s0_0 j8) := ⟨h6_⟩; have n7_ : yba (KeepBut w w68 g none) := ⟨h7_⟩; have n8_ : yba (Below w0.heap.size w0 w68) := ⟨h8_⟩; clear a3; clear a8; clear a4; clear b0; clear HI0; clear HK; clear HB; clear h0_ h1_ h2_ h3_ h4_ h5_ h6_ h7_ h8_; have d9 := n0_; have a3 := n1_; have g0 := n2_; have a8 := n3_; have a4 := n4_; have b0 := n5_; have HI0 := n6_; have HK := n7_; have HB := n8_; clear n0_ n1_ n2_ n3_ n4_ n5_ n6_ n7_ n8_; have hHeld : w68.cell? ⟨c4, 0, none⟩ = some (.int .i64 (wrap64 (1 + c5))) ∧ w68.cell? ⟨c4, 1, none⟩ = some (.int .i64 (wrap64 (1 + d2))) ∧ w68.cell? ⟨c4, 2, none⟩ = some (u107002) := hS_; obtain ⟨S6, I0⟩ := g0.out; clear g0; subst I0
        refine norm_ (a' := ?_) ?_ ?_
        rotate_left
        ·
         simp only [putAll, Act.put, List.setIfInBounds_toArray, List.set_cons_zero, List.set_cons_succ]
         rfl
        refine pz_ 6 64 q16_8 HT_ (by kernel_rfl) ?_
        refine one_ (i := 7) (N := some 65) q16_9 rfl rfl (one_of HT_.out (by kernel_rfl)) (by decide) (fun K hK => ?_)
        (have p135 : 0 ≤ (e4 : Int) := of_decide_eq_true (by assumption); have q135 : e4 < (y130.length : Int) := of_decide_eq_true (by assumption); obtain ⟨ad135, I1, k0⟩ := Kd.at_int (Kd.R_reads' d9.out).2.2 e4 p135 q135; obtain rfl : f9 = ad135 := (by injection I1))
        refine value_ (w1 := ?_) (v := ?_) (by rfl) rfl ?_ ?_
        rotate_left 2
        ·
         go_simp
         constructor
         ·
          rfl
         ·
          rfl
        clear k0
        refine hK.out _ _ ⟨(yar a4.out 0).trans rfl, (yar a4.out 1).trans rfl, (yar a4.out 2).trans rfl⟩ (fun hHeld => ?_)
        clear hK K
        refine norm_ (a' := ?_) ?_ ?_
        rotate_left
        ·
         show Act.put _ (some 65) _ = _
         simp only [Act.put, List.setIfInBounds_toArray, List.set_cons_zero, List.set_cons_succ, i64_w, i32_w]
         rfl
        refine pz_ 8 66 q16_10 HT_ (by kernel_rfl) ?_
        refine last_ (i := 9) (N := none) q16_11 rfl rfl (one_of HT_.out (by kernel_rfl)) (by decide) (fun K hK => ?_)
        have S7 : w68.cell? ⟨c4, 0, none⟩ = some (.int .i64 (wrap64 (1 + c5))) := (yar a4.out 0).trans rfl; have P1 := blk_frozen a4.out 0; have D4 := c0.out; have D5 := d1.out; have D6 := d5.out; have D7 := c7.out
        refine skip_ (w1 := ?_) (by rfl) rfl ?_ ?_
        rotate_left
        ·
         go_simp
         rfl
        refine hK.out _ _ ?_
        clear hK K
        refine done_ (done_of HT_.out (by kernel_rfl)) ?_
        obtain ⟨D8, D9, E0⟩ := cc3_ a4.out; obtain ⟨E1, E2, E3⟩ := cf3_ a4.out; have P2 := d0.out; have P3 := d6.out; have P4 := b7.out; have P5 := a6.out; obtain ⟨E4, E5, E6⟩ := cc3_ a8.out; obtain ⟨E7, E8, E9⟩ := cf3_ a8.out; obtain ⟨n3, n4, I2, _⟩ := Kd.Q_slice a3.out; subst I2
        try go_wp2
        refine bodyPost_ret (results_cell_row rfl _ _ c6 25 #[.int .i64 (rd y130 e4), .int .i64 (wrap64 (1 + d2)), .slice n3 a5.length n4] (0, 0) _ rfl (by (repeat refine oneB ?_); refine yav (cs := #[.int .i64 (rd y130 e4), .int .i64 (wrap64 (1 + d2)), .slice none 0 0]) ?_ 2 _ rfl; refine yav (cs := #[.int .i64 (rd y130 e4), .int .i64 0, .slice none 0 0]) ?_ 1 _ rfl; refine yav (cs := #[.int .i64 0, .int .i64 0, .slice none 0 0]) ?_ 0 _ rfl; (repeat refine oneB ?_); refine blk_far ?_ c0.out _; exact upB a8.out) Try.underlying25 rfl (by kernel_rfl)) rfl ?_
        exact ⟨_, by first | rfl | (simp [*, errW_none, errW_some] <;> rfl), by (with_reducible repeat (first | apply Kd.Q_alloc | apply Kd.Q_drewN | apply Kd.Q_drew)); exact yau (yay (p := ⟨c6, 2, none⟩) (yay (p := ⟨c6, 1, none⟩) (yay (p := ⟨c6, 0, none⟩) (yay (p := ⟨c4, 0, none⟩) (Kd.Q_types (Kd.Q_types a3.out a4.out (by decide)) a8.out (by decide)) (fun _ hk => hk.1.2) (.int .i64 (rd y130 e4))) (fun _ hk => hk.2) (.int .i64 (rd y130 e4))) (fun _ hk => hk.2) (.int .i64 (wrap64 (1 + d2)))) (fun _ hk => hk.2) (.slice n3 a5.length n4)) (fun _ hk => trivial), by repeat (with_reducible first | exact HI0.out | apply yad | apply yae | apply yai | apply yaf | refine yab ?_ a6.out _ | refine yab ?_ a7.out _ | refine yab ?_ a9.out _), by repeat (with_reducible first | exact HB.out | apply yao | apply yaj | apply yan | refine yag ?_ (Aside0.out ‹_›) | refine yag ?_ (yas HI0.out)), by repeat (with_reducible first | exact HK.out | apply yah | apply yal | apply yap | apply yam | refine yac ?_ b1.out _ | refine yac ?_ b2.out _ | refine yac ?_ b4.out _)⟩
       ·
        rw [if_neg c56] at H
        exact absurd H (by simp)
      ·
       rw [if_neg c55] at H
       exact absurd H (by simp)
     ·
      rw [if_neg c53] at H
      have n1 := beq_eq_false_iff_ne.mpr c53; have n2 := bne_iff_ne.mpr c53
      by_cases c76 : g6 = 1
      ·
       rw [if_pos c76] at H
       have n5 := beq_iff_eq.mpr c76; have n6 := bne_eq_false_iff_eq.mpr c76; clear c76; obtain ⟨y136, hy136⟩ : ∃ y_ : List Int, y_ = (([0, 7] : List Int)) := ⟨_, rfl⟩
       replace H : ((spec_l20Rd_pick.f k1 s0_0 d8 2).bind fun g9 => (if 0 ≤ g9.1 then (if g9.1 < (y136.length : Int) then (some ((wrap64 (1 + c5)), rd y136 g9.1, a5, g9.2)) else (none)) else (none))) = some (r1, r2, r3, r4) := by first | (rw [hy136]; with_reducible exact H) | (have H2_ := (Option.bind_some _ _).symm.trans H; rw [hy136]; with_reducible exact H2_) | (have H2_ := (Option.bind_some _ _).symm.trans H; with_reducible exact H2_) | with_reducible exact H | (rw [hy136]; exact H) | exact H
       have Ny136 := yaa hy136; clear hy136; obtain ⟨⟨f6, I3⟩, A77, H⟩ := bindA H; (try dsimp only at H)
       by_cases c78 : 0 ≤ f6
       ·
        rw [if_pos c78] at H
        replace c78 := decide_eq_true c78
        by_cases c79 : f6 < (y136.length : Int)
        ·
         rw [if_pos c79] at H
         replace c79 := decide_eq_true c79
         simp only [Option.some.injEq, Prod.mk.injEq] at H
         obtain ⟨rfl, rfl, rfl, rfl⟩ := H; have P6 := d5.out; have P7 := c0.out; have P8 := c7.out; have P9 := d1.out; have Q0 := b5.out; have Q1 := a7.out; obtain ⟨F0, F1, F2⟩ := cc3_ a4.out; obtain ⟨F3, F4, F5⟩ := cf3_ a4.out
         go_wp2_with (first | ((with_reducible refine gc_ 13 rfl ?_); refine gl_ (some 39) rfl Try.func13 #[.pointer (some ⟨g, 0, none⟩), .int .i64 a1] ?_; (with_reducible refine (spec_l20Rd_odd.calls k1 g s0_0 c8 a1 true e6 w0 _ ?side1 ?side2 A50.out).mono ?_); (case side1 => repeat (with_reducible first | exact HI0.out | apply yad | apply yae | apply yai | apply yaf | refine yab ?_ a6.out _ | refine yab ?_ a7.out _ | refine yab ?_ a9.out _)); (case side2 => repeat (with_reducible first | exact HB.out | apply yao | apply yaj | apply yan | refine yag ?_ (Aside0.out ‹_›) | refine yag ?_ (yas HI0.out))); rintro e w84 ⟨rfl, hi, hb, hk⟩; refine ⟨_, rfl, ?_⟩; replace a3 := yaa (yau (yax (yat (show IsS58 w0 _ g s0_0 c8 from by repeat (with_reducible first | exact HI0.out | apply yad | apply yae | apply yai | apply yaf | refine yab ?_ a6.out _ | refine yab ?_ a7.out _ | refine yab ?_ a9.out _)) (upQ a3.out) (by decide)) hk (fun _ h => h.2)) (fun _ h => h.1)); replace a8 := yaa (yak hk (upB a8.out) b7.out (by simp)); replace a4 := yaa (yak hk (upB a4.out) b5.out (by simp)); replace b0 := yaa (yak hk (upB b0.out) b9.out (by simp)); replace HK := yaa (yaq (by repeat (with_reducible first | exact HK.out | apply yah | apply yal | apply yap | apply yam | refine yac ?_ b1.out _ | refine yac ?_ b2.out _ | refine yac ?_ b4.out _)) hk (.inl rfl)); replace HB := yaa (hb); replace HI0 := yaa (hi); (try clear hb hk hi)) | ((with_reducible refine gc_ 14 rfl ?_); refine gl_ (some 41) rfl Try.func14 #[.pointer (some ⟨g, 0, none⟩), .int .i64 4] ?_; (with_reducible refine (spec_l20Rd_pick.calls k1 g s0_0 e6 4 g6 d8 w0 _ ?side1 ?side2 A52.out).mono ?_); (case side1 => repeat (with_reducible first | exact HI0.out | apply yad | apply yae | apply yai | apply yaf | refine yab ?_ a6.out _ | refine yab ?_ a7.out _ | refine yab ?_ a9.out _)); (case side2 => repeat (with_reducible first | exact HB.out | apply yao | apply yaj | apply yan | refine yag ?_ (Aside0.out ‹_›) | refine yag ?_ (yas HI0.out))); rintro e w85 ⟨rfl, hi, hb, hk⟩; refine ⟨_, rfl, ?_⟩; replace a3 := yaa (yau (yax (yat (show IsS58 w0 _ g s0_0 e6 from by repeat (with_reducible first | exact HI0.out | apply yad | apply yae | apply yai | apply yaf | refine yab ?_ a6.out _ | refine yab ?_ a7.out _ | refine yab ?_ a9.out _)) (upQ a3.out) (by decide)) hk (fun _ h => h.2)) (fun _ h => h.1)); replace a8 := yaa (yak hk (upB a8.out) b7.out (by simp)); replace a4 := yaa (yak hk (upB a4.out) b5.out (by simp)); replace b0 := yaa (yak hk (upB b0.out) b9.out (by simp)); replace HK := yaa (yaq (by repeat (with_reducible first | exact HK.out | apply yah | apply yal | apply yap | apply yam | refine yac ?_ b1.out _ | refine yac ?_ b2.out _ | refine yac ?_ b4.out _)) hk (.inl rfl)); replace HB := yaa (hb); replace HI0 := yaa (hi); (try clear hb hk hi)) | ((with_reducible refine gd_ 69 rfl ?_); refine Kd.R_lit (Kd.int .i64) _ 3 ?hg (N := 69) ?hd (xs := ([0, 7] : List Int)) (inner := [.int .i64 0, .int .i64 7]) (ok := fun _ => True) (okp := fun _ => True) ?hr ?hp (fun _ hk => hk) trivial (Below.refl _ _) (Nat.le_refl _) (by simp) ?_; (case hd => rfl); (case hg => rfl); (case hr => first | (go_simp; done) | (go_simp; rfl)); (case hp => exact (Reps.one (show Kd.M (Kd.int .i64) _ _ _ 0 [.int .i64 0] from rfl) (Reps.one (show Kd.M (Kd.int .i64) _ _ _ 7 [.int .i64 7] from rfl) (Reps.none _ _)))); intro S8 w86 h7 hb hg_ hnew_; clear hg_ hnew_; (first | rw [← Ny136.out] at h7 | (simp only [Int.reduceToNat] at h7; rw [← Ny136.out] at h7)); replace a3 := yaa (Kd.Q_below (upQ a3.out) hb); have h0 := yaa (Kd.R_lower h7 (keep_size (w := w) (g := g) (row := none) (by repeat (with_reducible first | exact HK.out | apply yah | apply yal | apply yap | apply yam | refine yac ?_ b1.out _ | refine yac ?_ b2.out _ | refine yac ?_ b4.out _)))); replace a8 := yaa (yaw (upB a8.out) hb); replace a4 := yaa (yaw (upB a4.out) hb); replace b0 := yaa (yaw (upB b0.out) hb); replace HK := yaa (yaq (by repeat (with_reducible first | exact HK.out | apply yah | apply yal | apply yap | apply yam | refine yac ?_ b1.out _ | refine yac ?_ b2.out _ | refine yac ?_ b4.out _)) (yaz hb g none) (.inl rfl)); replace HB := yaa (below_step (by repeat (with_reducible first | exact HB.out | apply yao | apply yaj | apply yan | refine yag ?_ (Aside0.out ‹_›) | refine yag ?_ (yas HI0.out))) hb); replace HI0 := yaa (IsS58.below (by repeat (with_reducible first | exact HI0.out | apply yad | apply yae | apply yai | apply yaf | refine yab ?_ a6.out _ | refine yab ?_ a7.out _ | refine yab ?_ a9.out _)) hb); clear hb h7) | ((with_reducible refine gc_ 14 rfl ?_); refine gl_ (some 71) rfl Try.func14 #[.pointer (some ⟨g, 0, none⟩), .int .i64 2] ?_; (with_reducible refine (spec_l20Rd_pick.calls k1 g s0_0 d8 2 f6 I3 w0 _ ?side1 ?side2 A77.out).mono ?_); (case side1 => repeat (with_reducible first | exact HI0.out | apply yad | apply yae | apply yai | apply yaf | refine yab ?_ a6.out _ | refine yab ?_ a7.out _ | refine yab ?_ a9.out _)); (case side2 => repeat (with_reducible first | exact HB.out | apply yao | apply yaj | apply yan | refine yag ?_ (Aside0.out ‹_›) | refine yag ?_ (yas HI0.out))); rintro e w88 ⟨rfl, hi, hb, hk⟩; refine ⟨_, rfl, ?_⟩; replace a3 := yaa (yau (yax (yat (show IsS58 w0 _ g s0_0 d8 from by repeat (with_reducible first | exact HI0.out | apply yad | apply yae | apply yai | apply yaf | refine yab ?_ a6.out _ | refine yab ?_ a7.out _ | refine yab ?_ a9.out _)) (upQ a3.out) (by decide)) hk (fun _ h => h.2)) (fun _ h => h.1)); replace a8 := yaa (yak hk (upB a8.out) b7.out (by simp)); replace a4 := yaa (yak hk (upB a4.out) b5.out (by simp)); replace b0 := yaa (yak hk (upB b0.out) b9.out (by simp)); replace h0 := yaa (Kd.R_mono (Kd.R_keep (IsS58.apart (show IsS58 w0 _ g s0_0 d8 from by repeat (with_reducible first | exact HI0.out | apply yad | apply yae | apply yai | apply yaf | refine yab ?_ a6.out _ | refine yab ?_ a7.out _ | refine yab ?_ a9.out _)) (upR h0.out) (by decide)) hk (fun _ h => h.2)) (fun _ h => h.1)); replace HK := yaa (yaq (by repeat (with_reducible first | exact HK.out | apply yah | apply yal | apply yap | apply yam | refine yac ?_ b1.out _ | refine yac ?_ b2.out _ | refine yac ?_ b4.out _)) hk (.inl rfl)); replace HB := yaa (hb); replace HI0 := yaa (hi); (try clear hb hk hi); obtain ⟨S9, T0, I4⟩ := Kd.R_slice h0.out; subst I4; have p141 : 0 ≤ (f6 : Int) := of_decide_eq_true (by assumption); have q141 : f6 < (y136.length : Int) := of_decide_eq_true (by assumption); obtain ⟨ad141, I5, F6⟩ := Kd.at_int (Kd.R_reads' h0.out).2.2 f6 p141 q141; cases I5; replace p141 := eq_true p141; replace q141 := eq_true q141; obtain ⟨F7, F8, F9⟩ := cc3_ a4.out; obtain ⟨G0, G1, G2⟩ := cf3_ a4.out; have Q3 := d0.out; have Q4 := d6.out; have Q5 := b7.out; have Q6 := a6.out; obtain ⟨G3, G4, G5⟩ := cc3_ a8.out; obtain ⟨G6, G7, G8⟩ := cf3_ a8.out; obtain ⟨n7, n8, I6, _⟩ := Kd.Q_slice a3.out; subst I6))
         refine bodyPost_ret (results_cell_row rfl _ _ c6 25 #[.int .i64 (wrap64 (1 + c5)), .int .i64 (rd y136 f6), .slice n7 a5.length n8] (0, 0) _ rfl (by (repeat refine oneB ?_); refine yav (cs := #[.int .i64 (wrap64 (1 + c5)), .int .i64 (rd y136 f6), .slice none 0 0]) ?_ 2 _ rfl; refine yav (cs := #[.int .i64 (wrap64 (1 + c5)), .int .i64 0, .slice none 0 0]) ?_ 1 _ rfl; refine yav (cs := #[.int .i64 0, .int .i64 0, .slice none 0 0]) ?_ 0 _ rfl; (repeat refine oneB ?_); refine blk_far ?_ c0.out _; exact upB a8.out) Try.underlying25 rfl (by kernel_rfl)) rfl ?_
         exact ⟨_, by first | rfl | (simp [*, errW_none, errW_some] <;> rfl), by (with_reducible repeat (first | apply Kd.Q_alloc | apply Kd.Q_drewN | apply Kd.Q_drew)); exact yau (yay (p := ⟨c6, 2, none⟩) (yay (p := ⟨c6, 1, none⟩) (yay (p := ⟨c6, 0, none⟩) (yay (p := ⟨c4, 1, none⟩) (Kd.Q_types (Kd.Q_types a3.out a4.out (by decide)) a8.out (by decide)) (fun _ hk => hk.1.2) (.int .i64 (rd y136 f6))) (fun _ hk => hk.2) (.int .i64 (wrap64 (1 + c5)))) (fun _ hk => hk.2) (.int .i64 (rd y136 f6))) (fun _ hk => hk.2) (.slice n7 a5.length n8)) (fun _ hk => trivial), by repeat (with_reducible first | exact HI0.out | apply yad | apply yae | apply yai | apply yaf | refine yab ?_ a6.out _ | refine yab ?_ a7.out _ | refine yab ?_ a9.out _), by repeat (with_reducible first | exact HB.out | apply yao | apply yaj | apply yan | refine yag ?_ (Aside0.out ‹_›) | refine yag ?_ (yas HI0.out)), by repeat (with_reducible first | exact HK.out | apply yah | apply yal | apply yap | apply yam | refine yac ?_ b1.out _ | refine yac ?_ b2.out _ | refine yac ?_ b4.out _)⟩
        ·
         rw [if_neg c79] at H
         exact absurd H (by simp)
       ·
        rw [if_neg c78] at H
        exact absurd H (by simp)
      ·
       rw [if_neg c76] at H
       have n5 := beq_eq_false_iff_ne.mpr c76; have n6 := bne_iff_ne.mpr c76
       by_cases c95 : g6 = 2
       ·
        rw [if_pos c95] at H
        have n9 := beq_iff_eq.mpr c95; have o0 := bne_eq_false_iff_eq.mpr c95; clear c95
        by_cases c96 : 1 ≤ (a5.length : Int)
        ·
         rw [if_pos c96] at H
         have Q7 := eq_true c96; replace c96 := decide_eq_true c96; obtain ⟨y142, hy142⟩ : ∃ y_ : List (S53), y_ = (a5.drop (1 : Int).toNat) := ⟨_, rfl⟩
         replace H : (some ((wrap64 (1 + c5)), (wrap64 (1 + d2)), y142, d8)) = some (r1, r2, r3, r4) := by first | (rw [hy142]; with_reducible exact H) | (have H2_ := (Option.bind_some _ _).symm.trans H; rw [hy142]; with_reducible exact H2_) | (have H2_ := (Option.bind_some _ _).symm.trans H; with_reducible exact H2_) | with_reducible exact H | (rw [hy142]; exact H) | exact H
         have Ny142 := yaa hy142; clear hy142
         simp only [Option.some.injEq, Prod.mk.injEq] at H
         obtain ⟨rfl, rfl, rfl, rfl⟩ := H; have Q8 := d5.out; have Q9 := c0.out; have R0 := c7.out; have R1 := d1.out; have R2 := b5.out; have R3 := a7.out; obtain ⟨o1, o2, o3⟩ := cc3_ a4.out; obtain ⟨o4, o5, o6⟩ := cf3_ a4.out
         go_wp2_with (first | ((with_reducible refine gc_ 13 rfl ?_); refine gl_ (some 39) rfl Try.func13 #[.pointer (some ⟨g, 0, none⟩), .int .i64 a1] ?_; (with_reducible refine (spec_l20Rd_odd.calls k1 g s0_0 c8 a1 true e6 w0 _ ?side1 ?side2 A50.out).mono ?_); (case side1 => repeat (with_reducible first | exact HI0.out | apply yad | apply yae | apply yai | apply yaf | refine yab ?_ a6.out _ | refine yab ?_ a7.out _ | refine yab ?_ a9.out _)); (case side2 => repeat (with_reducible first | exact HB.out | apply yao | apply yaj | apply yan | refine yag ?_ (Aside0.out ‹_›) | refine yag ?_ (yas HI0.out))); rintro e w101 ⟨rfl, hi, hb, hk⟩; refine ⟨_, rfl, ?_⟩; replace a3 := yaa (yau (yax (yat (show IsS58 w0 _ g s0_0 c8 from by repeat (with_reducible first | exact HI0.out | apply yad | apply yae | apply yai | apply yaf | refine yab ?_ a6.out _ | refine yab ?_ a7.out _ | refine yab ?_ a9.out _)) (upQ a3.out) (by decide)) hk (fun _ h => h.2)) (fun _ h => h.1)); replace a8 := yaa (yak hk (upB a8.out) b7.out (by simp)); replace a4 := yaa (yak hk (upB a4.out) b5.out (by simp)); replace b0 := yaa (yak hk (upB b0.out) b9.out (by simp)); replace HK := yaa (yaq (by repeat (with_reducible first | exact HK.out | apply yah | apply yal | apply yap | apply yam | refine yac ?_ b1.out _ | refine yac ?_ b2.out _ | refine yac ?_ b4.out _)) hk (.inl rfl)); replace HB := yaa (hb); replace HI0 := yaa (hi); (try clear hb hk hi)) | ((with_reducible refine gc_ 14 rfl ?_); refine gl_ (some 41) rfl Try.func14 #[.pointer (some ⟨g, 0, none⟩), .int .i64 4] ?_; (with_reducible refine (spec_l20Rd_pick.calls k1 g s0_0 e6 4 g6 d8 w0 _ ?side1 ?side2 A52.out).mono ?_); (case side1 => repeat (with_reducible first | exact HI0.out | apply yad | apply yae | apply yai | apply yaf | refine yab ?_ a6.out _ | refine yab ?_ a7.out _ | refine yab ?_ a9.out _)); (case side2 => repeat (with_reducible first | exact HB.out | apply yao | apply yaj | apply yan | refine yag ?_ (Aside0.out ‹_›) | refine yag ?_ (yas HI0.out))); rintro e w102 ⟨rfl, hi, hb, hk⟩; refine ⟨_, rfl, ?_⟩; replace a3 := yaa (yau (yax (yat (show IsS58 w0 _ g s0_0 e6 from by repeat (with_reducible first | exact HI0.out | apply yad | apply yae | apply yai | apply yaf | refine yab ?_ a6.out _ | refine yab ?_ a7.out _ | refine yab ?_ a9.out _)) (upQ a3.out) (by decide)) hk (fun _ h => h.2)) (fun _ h => h.1)); replace a8 := yaa (yak hk (upB a8.out) b7.out (by simp)); replace a4 := yaa (yak hk (upB a4.out) b5.out (by simp)); replace b0 := yaa (yak hk (upB b0.out) b9.out (by simp)); replace HK := yaa (yaq (by repeat (with_reducible first | exact HK.out | apply yah | apply yal | apply yap | apply yam | refine yac ?_ b1.out _ | refine yac ?_ b2.out _ | refine yac ?_ b4.out _)) hk (.inl rfl)); replace HB := yaa (hb); replace HI0 := yaa (hi); (try clear hb hk hi); obtain ⟨o7, o8, o9⟩ := cc3_ a4.out; obtain ⟨p0, p1, p3⟩ := cf3_ a4.out; obtain ⟨g1, h1, p4, _⟩ := Kd.Q_slice a3.out; subst p4; have q105 : (1 : Int) ≤ ((a5.length : Int) : Int) := of_decide_eq_true (by assumption); obtain ⟨i0105, hi0105, _, h8, _⟩ := info_parts info53; have hcut105 := cut_from (P := Try.prog) 23 53 .i64 Try.underlying23 hi0105 4 h8 g1 a5.length h1 1 (by omega) q105; have hr105 := Kd.Q_drop (k := (1 : Int).toNat) a3.out (by omega); obtain ⟨h9, hA105⟩ : ∃ A1, A1 = (if h1 = (1 : Int).toNat then g1 else (g1 : Option Addr).map (·.add ((1 : Int).toNat * 4))) := ⟨_, rfl⟩; obtain ⟨i0, hc105⟩ : ∃ c1, c1 = h1 - (1 : Int).toNat := ⟨_, rfl⟩; have hy105 : y142.length = a5.length - (1 : Int).toNat := (by rw [Ny142.out, List.length_drop]); rw [← Ny142.out] at hr105; rw [← hy105, ← hA105, ← hc105] at hcut105; replace hr105 : Kd.Q k53 53 w102 w.heap.size (fun k_ => k_ ≠ c9) (.slice h9 y142.length i0) y142 := (by rw [hA105, hc105, hy105]; exact hr105); have HE105 : yba ((Value.slice h9 y142.length i0).ownBlock = (.slice g1 a5.length h1 : Value).ownBlock) := ⟨by rw [hA105]; split <;> (cases (g1 : Option Addr) <;> rfl)⟩; clear hy105 hi0105 h8 a3 hA105 hc105; have p5 := yaa hr105; clear hr105; replace q105 := eq_true q105; have I7 := d0.out; have I8 := d6.out; have I9 := b7.out; have J0 := a6.out; obtain ⟨p7, p8, p9⟩ := cc3_ a8.out; obtain ⟨q0, q1⟩ := cf2_ a8.out; have q2 := blk_frozen a8.out 2))
         refine bodyPost_ret (results_cell_row rfl _ _ c6 25 #[.int .i64 (wrap64 (1 + c5)), .int .i64 (wrap64 (1 + d2)), .slice h9 y142.length i0] (0, 0) _ rfl (by (repeat refine oneB ?_); refine yav (cs := #[.int .i64 (wrap64 (1 + c5)), .int .i64 (wrap64 (1 + d2)), .slice none 0 0]) ?_ 2 _ rfl; refine yav (cs := #[.int .i64 (wrap64 (1 + c5)), .int .i64 0, .slice none 0 0]) ?_ 1 _ rfl; refine yav (cs := #[.int .i64 0, .int .i64 0, .slice none 0 0]) ?_ 0 _ rfl; (repeat refine oneB ?_); refine blk_far ?_ c0.out _; exact upB a8.out) Try.underlying25 rfl (by kernel_rfl)) rfl ?_
         exact ⟨_, by first | rfl | (simp [*, errW_none, errW_some] <;> rfl), by (with_reducible repeat (first | apply Kd.Q_alloc | apply Kd.Q_drewN | apply Kd.Q_drew)); exact yau (yay (p := ⟨c6, 2, none⟩) (yay (p := ⟨c6, 1, none⟩) (yay (p := ⟨c6, 0, none⟩) (yay (p := ⟨c4, 2, none⟩) (Kd.Q_types (Kd.Q_types p5.out a4.out (by decide)) a8.out (by decide)) (fun _ hk => hk.1.2) (.slice h9 y142.length i0)) (fun _ hk => hk.2) (.int .i64 (wrap64 (1 + c5)))) (fun _ hk => hk.2) (.int .i64 (wrap64 (1 + d2)))) (fun _ hk => hk.2) (.slice h9 y142.length i0)) (fun _ hk => trivial), by repeat (with_reducible first | exact HI0.out | apply yad | apply yae | apply yai | apply yaf | refine yab ?_ a6.out _ | refine yab ?_ a7.out _ | refine yab ?_ a9.out _), by repeat (with_reducible first | exact HB.out | apply yao | apply yaj | apply yan | refine yag ?_ (Aside0.out ‹_›) | refine yag ?_ (yas HI0.out)), by repeat (with_reducible first | exact HK.out | apply yah | apply yal | apply yap | apply yam | refine yac ?_ b1.out _ | refine yac ?_ b2.out _ | refine yac ?_ b4.out _)⟩
        ·
         rw [if_neg c96] at H
         exact absurd H (by simp)
       ·
        rw [if_neg c95] at H
        have n9 := beq_eq_false_iff_ne.mpr c95; have o0 := bne_iff_ne.mpr c95; obtain ⟨⟨d4, f7⟩, q3, H⟩ := bindA H; (try dsimp only at H); obtain ⟨y147, hy147, H⟩ := bindY H; (try dsimp only at H); have Ny147 := yaa hy147; clear hy147; obtain ⟨⟨e1, g7⟩, m1, H⟩ := bindA H; (try dsimp only at H)
        by_cases k2 : 0 ≤ e1
        ·
         rw [if_pos k2] at H
         replace k2 := decide_eq_true k2
         by_cases k3 : e1 < (y147.length : Int)
         ·
          rw [if_pos k3] at H
          replace k3 := decide_eq_true k3
          by_cases k4 : 0 ≤ d4
          ·
           rw [if_pos k4] at H
           replace k4 := decide_eq_true k4
           by_cases k5 : d4 < (a5.length : Int)
           ·
            rw [if_pos k5] at H
            replace k5 := decide_eq_true k5; obtain ⟨y153, hy153⟩ : ∃ y_ : List (S53), y_ = (a5.set (d4 : Int).toNat (⟨(rd_T53 a5 d4).f0, rd y147 e1, (rd_T53 a5 d4).f2, (rd_T53 a5 d4).f3⟩ : S53)) := ⟨_, rfl⟩
            replace H : (some ((wrap64 (1 + c5)), (wrap64 (1 + d2)), y153, g7)) = some (r1, r2, r3, r4) := by first | (rw [hy153]; with_reducible exact H) | (have H2_ := (Option.bind_some _ _).symm.trans H; rw [hy153]; with_reducible exact H2_) | (have H2_ := (Option.bind_some _ _).symm.trans H; with_reducible exact H2_) | with_reducible exact H | (rw [hy153]; exact H) | exact H
            have Ny153 := yaa hy153; clear hy153
            simp only [Option.some.injEq, Prod.mk.injEq] at H
            obtain ⟨rfl, rfl, rfl, rfl⟩ := H; have J1 := d5.out; have J2 := c0.out; have J3 := c7.out; have J4 := d1.out; have J5 := b5.out; have J6 := a7.out; obtain ⟨q4, q5, q6⟩ := cc3_ a4.out; obtain ⟨q7, q8, q9⟩ := cf3_ a4.out
            try go_wp2_with (first | ((with_reducible refine gc_ 13 rfl ?_); refine gl_ (some 39) rfl Try.func13 #[.pointer (some ⟨g, 0, none⟩), .int .i64 a1] ?_; (with_reducible refine (spec_l20Rd_odd.calls k1 g s0_0 c8 a1 true e6 w0 _ ?side1 ?side2 A50.out).mono ?_); (case side1 => repeat (with_reducible first | exact HI0.out | apply yad | apply yae | apply yai | apply yaf | refine yab ?_ a6.out _ | refine yab ?_ a7.out _ | refine yab ?_ a9.out _)); (case side2 => repeat (with_reducible first | exact HB.out | apply yao | apply yaj | apply yan | refine yag ?_ (Aside0.out ‹_›) | refine yag ?_ (yas HI0.out))); rintro e w120 ⟨rfl, hi, hb, hk⟩; refine ⟨_, rfl, ?_⟩; replace a3 := yaa (yau (yax (yat (show IsS58 w0 _ g s0_0 c8 from by repeat (with_reducible first | exact HI0.out | apply yad | apply yae | apply yai | apply yaf | refine yab ?_ a6.out _ | refine yab ?_ a7.out _ | refine yab ?_ a9.out _)) (upQ a3.out) (by decide)) hk (fun _ h => h.2)) (fun _ h => h.1)); replace a8 := yaa (yak hk (upB a8.out) b7.out (by simp)); replace a4 := yaa (yak hk (upB a4.out) b5.out (by simp)); replace b0 := yaa (yak hk (upB b0.out) b9.out (by simp)); replace HK := yaa (yaq (by repeat (with_reducible first | exact HK.out | apply yah | apply yal | apply yap | apply yam | refine yac ?_ b1.out _ | refine yac ?_ b2.out _ | refine yac ?_ b4.out _)) hk (.inl rfl)); replace HB := yaa (hb); replace HI0 := yaa (hi); (try clear hb hk hi)) | ((with_reducible refine gc_ 14 rfl ?_); refine gl_ (some 41) rfl Try.func14 #[.pointer (some ⟨g, 0, none⟩), .int .i64 4] ?_; (with_reducible refine (spec_l20Rd_pick.calls k1 g s0_0 e6 4 g6 d8 w0 _ ?side1 ?side2 A52.out).mono ?_); (case side1 => repeat (with_reducible first | exact HI0.out | apply yad | apply yae | apply yai | apply yaf | refine yab ?_ a6.out _ | refine yab ?_ a7.out _ | refine yab ?_ a9.out _)); (case side2 => repeat (with_reducible first | exact HB.out | apply yao | apply yaj | apply yan | refine yag ?_ (Aside0.out ‹_›) | refine yag ?_ (yas HI0.out))); rintro e w121 ⟨rfl, hi, hb, hk⟩; refine ⟨_, rfl, ?_⟩; replace a3 := yaa (yau (yax (yat (show IsS58 w0 _ g s0_0 e6 from by repeat (with_reducible first | exact HI0.out | apply yad | apply yae | apply yai | apply yaf | refine yab ?_ a6.out _ | refine yab ?_ a7.out _ | refine yab ?_ a9.out _)) (upQ a3.out) (by decide)) hk (fun _ h => h.2)) (fun _ h => h.1)); replace a8 := yaa (yak hk (upB a8.out) b7.out (by simp)); replace a4 := yaa (yak hk (upB a4.out) b5.out (by simp)); replace b0 := yaa (yak hk (upB b0.out) b9.out (by simp)); replace HK := yaa (yaq (by repeat (with_reducible first | exact HK.out | apply yah | apply yal | apply yap | apply yam | refine yac ?_ b1.out _ | refine yac ?_ b2.out _ | refine yac ?_ b4.out _)) hk (.inl rfl)); replace HB := yaa (hb); replace HI0 := yaa (hi); (try clear hb hk hi)))
            have pi152 : (0 ≤ (e1 : Int)) = True := eq_true (of_decide_eq_true (by assumption)); have qi152 : (e1 < (y147.length : Int)) = True := eq_true (of_decide_eq_true (by assumption)); replace a3 := yaa (Kd.Q_drew a3.out); replace a8 := yaa (blk_drew a8.out); replace a4 := yaa (blk_drew a4.out); replace b0 := yaa (blk_drew b0.out); replace HI0 := yaa (yai HI0.out); replace HK := yaa (yap HK.out); replace HB := yaa (yan HB.out); obtain ⟨e8, e2, l2, _⟩ := Kd.Q_slice a3.out
            (first | subst l2 | (injection l2 with f1_ f2_ f3_; have f4_ := f1_.symm; have f5_ := f3_.symm; clear f1_ f2_ f3_; subst f4_; subst f5_))
            refine start_ (n := 15) (S := fun w' => w'.cell? ⟨c4, 0, none⟩ = some (.int .i64 (wrap64 (1 + c5))) ∧ w'.cell? ⟨c4, 1, none⟩ = some (.int .i64 (wrap64 (1 + d2))) ∧ w'.cell? ⟨c4, 2, none⟩ = some (.slice e8 a5.length e2)) (ds := [14]) q16_12 (by kernel_rfl) rfl rfl ⟨(yar a4.out 0).trans rfl, (yar a4.out 1).trans rfl, (yar a4.out 2).trans rfl⟩ (fun hHeld => ?_); refine with_tabW spec_l20Ras.tab11 spec_l20Ras.bits11 (fun HT_ HW_ => ?_)
            generalize w121.drew = w122 at a3 a8 a4 b0 HI0 HK HB hHeld ⊢
            refine pz_ 0 42 q16_13 HT_ (by kernel_rfl) ?_
            refine pz_ 2 44 q16_14 HT_ (by kernel_rfl) ?_
            refine pz_ 3 45 q16_15 HT_ (by kernel_rfl) ?_
            refine pz_ 8 50 q16_16 HT_ (by kernel_rfl) ?_
            refine tz_ 1 43 q16_17 HT_ HW_ (by kernel_rfl) hHeld ?_
            refine tz_ 4 46 q16_18 HT_ HW_ (by kernel_rfl) hHeld ?_
            refine pz_ 5 47 q16_19 HT_ (by kernel_rfl) ?_
            refine join_ (σ := Value × Addr) 5 q16_20 (fun s_ => [(48, .int .i64 d4), (49, s_.1), (51, .int .i64 e1)]) (fun s_ w' => (w'.cell? ⟨c4, 0, none⟩ = some (.int .i64 (wrap64 (1 + c5))) ∧ w'.cell? ⟨c4, 1, none⟩ = some (.int .i64 (wrap64 (1 + d2))) ∧ w'.cell? ⟨c4, 2, none⟩ = some (.slice e8 a5.length e2)) ∧ (Kd.R (Kd.int .i64) 3 w' w.heap.size (fun _ => True) s_.1 y147) ∧ (Kd.Q k53 53 w' w.heap.size (fun k_ => k_ ≠ c9) (.slice e8 a5.length e2) a5) ∧ (∃ c_, (s_.1 : Value) = .slice (some s_.2) y147.length c_) ∧ (w'.heap[c6]? = some (.cells #[.int .i64 0, .int .i64 0, .slice none 0 0] 25 (0, 0))) ∧ (w'.heap[c4]? = some (.cells #[.int .i64 (wrap64 (1 + c5)), .int .i64 (wrap64 (1 + d2)), .slice e8 a5.length e2] 25 (0, 0))) ∧ (w'.heap[c9]? = some (.cells #[.int .i64 c3, .int .i64 b8, .int .i64 b6, .int .i64 b3] 53 (0, 0))) ∧ (IsS58 w0 w' g s0_0 g7) ∧ (KeepBut w w' g none) ∧ (Below w0.heap.size w0 w')) ?_ ?_
            rotate_left
            ·
             intro hCont
             refine two_ (i := 6) (j := 7) (Ni := some 48) (Nj := some 49) q16_21 q16_22 rfl rfl rfl rfl (two_of HT_.out (by kernel_rfl)) (by decide) (by decide) (fun K hK => ?_) (fun K hK => ?_)
             ·
              skip
              refine goes_ Try.func14 (by kernel_rfl) rfl #[.pointer (some ⟨g, 0, none⟩), .int .i64 (a5.length : Int)] (by rfl) rfl rfl (by (try simp only [List.map_toArray, List.map_cons, List.map_nil]); first | done | rfl | (simp only [List.length_drop, List.length_take]; rfl)) ?_
              with_reducible refine (spec_l20Rd_pick.calls k1 g s0_0 d8 (a5.length : Int) d4 f7 w0 _ ?side1 ?side2 q3.out).mono ?_
              (case side1 => repeat (with_reducible first | exact HI0.out | apply yad | apply yae | apply yai | apply yaf | refine yab ?_ a6.out _ | refine yab ?_ a7.out _ | refine yab ?_ a9.out _))
              (case side2 => repeat (with_reducible first | exact HB.out | apply yao | apply yaj | apply yan | refine yag ?_ (Aside0.out ‹_›) | refine yag ?_ (yas HI0.out)))
              rintro e w124 ⟨rfl, hi, hb, hk⟩; refine ⟨_, rfl, ?_⟩
              have n0_ := yaa (yau (yax (yat (show IsS58 w0 _ g s0_0 d8 from by repeat (with_reducible first | exact HI0.out | apply yad | apply yae | apply yai | apply yaf | refine yab ?_ a6.out _ | refine yab ?_ a7.out _ | refine yab ?_ a9.out _)) (upQ a3.out) (by decide)) hk (fun _ h => h.2)) (fun _ h => h.1))
              have n1_ := yaa (yak hk (upB a8.out) b7.out (by simp)); have n2_ := yaa (yak hk (upB a4.out) b5.out (by simp)); have n3_ := yaa (yak hk (upB b0.out) b9.out (by simp))
              have n4_ := yaa (yaq (by repeat (with_reducible first | exact HK.out | apply yah | apply yal | apply yap | apply yam | refine yac ?_ b1.out _ | refine yac ?_ b2.out _ | refine yac ?_ b4.out _)) hk (.inl rfl))
              have n5_ := yaa (hb); have n6_ := yaa (hi); clear a3; clear a8; clear a4; clear b0; clear HK; clear HB; clear HI0; have a3 := n0_; have a8 := n1_; have a4 := n2_; have b0 := n3_; have HK := n4_; have HB := n5_; have HI0 := n6_; clear n0_ n1_ n2_ n3_ n4_ n5_ n6_; (try clear hb); (try clear hb2); (try clear hk); (try clear hi)
              refine hK.out _ _ ⟨(yar a4.out 0).trans rfl, (yar a4.out 1).trans rfl, (yar a4.out 2).trans rfl⟩ (fun hHeld => ?_)
              clear hK K
              refine norm_ (a' := ?_) ?_ ?_
              rotate_left
              ·
               show Act.put _ (some 48) _ = _
               simp only [Act.put, List.setIfInBounds_toArray, List.set_cons_zero, List.set_cons_succ, i64_w, i32_w]
               rfl
              refine two_ (i := 7) (j := 9) (Ni := some 49) (Nj := some 51) q16_23 q16_24 rfl rfl rfl rfl (two_of HT_.out (by kernel_rfl)) (by decide) (by decide) (fun K hK => ?_) (fun K hK => ?_)
              ·
               skip
               refine Kd.R_lit_step (Kd.int .i64) _ 3 ?hg (N := 49) ?hd (xs := ([(-1), 256] : List Int)) (inner := [.int .i64 (-1), .int .i64 256]) (ok := fun _ => True) (okp := fun _ => True) ?hr ?hp (fun _ hk => hk) trivial (Below.refl _ _) (Nat.le_refl _) (by simp) ?_; (case hd => rfl); (case hg => rfl); (case hr => first | (go_simp; done) | (go_simp; rfl)); (case hp => exact (Reps.one (show Kd.M (Kd.int .i64) _ _ _ (-1) [.int .i64 (-1)] from rfl) (Reps.one (show Kd.M (Kd.int .i64) _ _ _ 256 [.int .i64 256] from rfl) (Reps.none _ _))))
               intro i1 w125 g2 hb hg_ hnew_; clear hg_ hnew_
               (first | rw [← Ny147.out] at g2 | (simp only [Int.reduceToNat] at g2; rw [← Ny147.out] at g2))
               have n0_ := yaa (Kd.Q_below (upQ a3.out) hb)
               have n1_ := yaa (Kd.R_lower g2 (keep_size (w := w) (g := g) (row := none) (by repeat (with_reducible first | exact HK.out | apply yah | apply yal | apply yap | apply yam | refine yac ?_ b1.out _ | refine yac ?_ b2.out _ | refine yac ?_ b4.out _))))
               have n2_ := yaa (yaw (upB a8.out) hb); have n3_ := yaa (yaw (upB a4.out) hb); have n4_ := yaa (yaw (upB b0.out) hb)
               have n5_ := yaa (IsS58.below (by repeat (with_reducible first | exact HI0.out | apply yad | apply yae | apply yai | apply yaf | refine yab ?_ a6.out _ | refine yab ?_ a7.out _ | refine yab ?_ a9.out _)) hb)
               have n6_ := yaa (yaq (by repeat (with_reducible first | exact HK.out | apply yah | apply yal | apply yap | apply yam | refine yac ?_ b1.out _ | refine yac ?_ b2.out _ | refine yac ?_ b4.out _)) (yaz hb g none) (.inl rfl))
               have n7_ := yaa (below_step (by repeat (with_reducible first | exact HB.out | apply yao | apply yaj | apply yan | refine yag ?_ (Aside0.out ‹_›) | refine yag ?_ (yas HI0.out))) hb)
               clear a3; clear a8; clear a4; clear b0; clear HI0; clear HK; clear HB; have a3 := n0_; have d3 := n1_; have a8 := n2_; have a4 := n3_; have b0 := n4_; have HI0 := n5_; have HK := n6_; have HB := n7_; clear n0_ n1_ n2_ n3_ n4_ n5_ n6_ n7_; clear hb g2; obtain ⟨R4, r0, r5⟩ := Kd.R_slice d3.out; subst r5; obtain ⟨ado127, fo127, _⟩ := Kd.at_int (Kd.R_reads' d3.out).2.2 0 (by decide) (by rw [Ny147.out]; simp)
               cases fo127
               refine hK.out _ _ ⟨(yar a4.out 0).trans rfl, (yar a4.out 1).trans rfl, (yar a4.out 2).trans rfl⟩ (fun hHeld => ?_)
               clear hK K
               refine norm_ (a' := ?_) ?_ ?_
               rotate_left
               ·
                show Act.put _ (some 49) _ = _
                simp only [Act.put, List.setIfInBounds_toArray, List.set_cons_zero, List.set_cons_succ, i64_w, i32_w]
                rfl
               refine one_ (i := 9) (N := some 51) q16_20 rfl rfl (one_of HT_.out (by kernel_rfl)) (by decide) (fun K hK => ?_)
               refine goes_ Try.func14 (by kernel_rfl) rfl #[.pointer (some ⟨g, 0, none⟩), .int .i64 2] (by rfl) rfl rfl (by (try simp only [List.map_toArray, List.map_cons, List.map_nil]); first | done | rfl | (simp only [List.length_drop, List.length_take]; rfl)) ?_
               with_reducible refine (spec_l20Rd_pick.calls k1 g s0_0 f7 2 e1 g7 w0 _ ?side1 ?side2 m1.out).mono ?_
               (case side1 => repeat (with_reducible first | exact HI0.out | apply yad | apply yae | apply yai | apply yaf | refine yab ?_ a6.out _ | refine yab ?_ a7.out _ | refine yab ?_ a9.out _))
               (case side2 => repeat (with_reducible first | exact HB.out | apply yao | apply yaj | apply yan | refine yag ?_ (Aside0.out ‹_›) | refine yag ?_ (yas HI0.out)))
               rintro e w128 ⟨rfl, hi, hb, hk⟩; refine ⟨_, rfl, ?_⟩
               have n0_ := yaa (yau (yax (yat (show IsS58 w0 _ g s0_0 f7 from by repeat (with_reducible first | exact HI0.out | apply yad | apply yae | apply yai | apply yaf | refine yab ?_ a6.out _ | refine yab ?_ a7.out _ | refine yab ?_ a9.out _)) (upQ a3.out) (by decide)) hk (fun _ h => h.2)) (fun _ h => h.1))
               have n1_ := yaa (yak hk (upB a8.out) b7.out (by simp)); have n2_ := yaa (yak hk (upB a4.out) b5.out (by simp)); have n3_ := yaa (yak hk (upB b0.out) b9.out (by simp))
               have n4_ := yaa (Kd.R_mono (Kd.R_keep (IsS58.apart (show IsS58 w0 _ g s0_0 f7 from by repeat (with_reducible first | exact HI0.out | apply yad | apply yae | apply yai | apply yaf | refine yab ?_ a6.out _ | refine yab ?_ a7.out _ | refine yab ?_ a9.out _)) (upR d3.out) (by decide)) hk (fun _ h => h.2)) (fun _ h => h.1))
               have n5_ := yaa (yaq (by repeat (with_reducible first | exact HK.out | apply yah | apply yal | apply yap | apply yam | refine yac ?_ b1.out _ | refine yac ?_ b2.out _ | refine yac ?_ b4.out _)) hk (.inl rfl))
               have n6_ := yaa (hb); have n7_ := yaa (hi); clear a3; clear a8; clear a4; clear b0; clear d3; clear HK; clear HB; clear HI0; have a3 := n0_; have a8 := n1_; have a4 := n2_; have b0 := n3_; have d3 := n4_; have HK := n5_; have HB := n6_; have HI0 := n7_; clear n0_ n1_ n2_ n3_ n4_ n5_ n6_ n7_; (try clear hb); (try clear hb2); (try clear hk); (try clear hi)
               refine hK.out _ _ ⟨(yar a4.out 0).trans rfl, (yar a4.out 1).trans rfl, (yar a4.out 2).trans rfl⟩ (fun hHeld => ?_)
               clear hK K
               refine norm_ (a' := ?_) ?_ ?_
               rotate_left
               ·
                show Act.put _ (some 51) _ = _
                simp only [Act.put, List.setIfInBounds_toArray, List.set_cons_zero, List.set_cons_succ, i64_w, i32_w]
                rfl
               exact norm_ (by simp only [putAll, Act.put, List.setIfInBounds_toArray, List.set_cons_zero, List.set_cons_succ]) (hCont (.slice (some ado127) y147.length r0, ado127) _ ⟨hHeld, (upR d3.out), (upQ a3.out), ⟨_, rfl⟩, (upB a8.out), (upB a4.out), (upB b0.out), (by repeat (with_reducible first | exact HI0.out | apply yad | apply yae | apply yai | apply yaf | refine yab ?_ a6.out _ | refine yab ?_ a7.out _ | refine yab ?_ a9.out _)), (by repeat (with_reducible first | exact HK.out | apply yah | apply yal | apply yap | apply yam | refine yac ?_ b1.out _ | refine yac ?_ b2.out _ | refine yac ?_ b4.out _)), (by repeat (with_reducible first | exact HB.out | apply yao | apply yaj | apply yan | refine yag ?_ (Aside0.out ‹_›) | refine yag ?_ (yas HI0.out)))⟩)
              ·
               skip
               refine goes_ Try.func14 (by kernel_rfl) rfl #[.pointer (some ⟨g, 0, none⟩), .int .i64 2] (by rfl) rfl rfl (by (try simp only [List.map_toArray, List.map_cons, List.map_nil]); first | done | rfl | (simp only [List.length_drop, List.length_take]; rfl)) ?_
               with_reducible refine (spec_l20Rd_pick.calls k1 g s0_0 f7 2 e1 g7 w0 _ ?side1 ?side2 m1.out).mono ?_
               (case side1 => repeat (with_reducible first | exact HI0.out | apply yad | apply yae | apply yai | apply yaf | refine yab ?_ a6.out _ | refine yab ?_ a7.out _ | refine yab ?_ a9.out _))
               (case side2 => repeat (with_reducible first | exact HB.out | apply yao | apply yaj | apply yan | refine yag ?_ (Aside0.out ‹_›) | refine yag ?_ (yas HI0.out)))
               rintro e w125 ⟨rfl, hi, hb, hk⟩; refine ⟨_, rfl, ?_⟩
               have n0_ := yaa (yau (yax (yat (show IsS58 w0 _ g s0_0 f7 from by repeat (with_reducible first | exact HI0.out | apply yad | apply yae | apply yai | apply yaf | refine yab ?_ a6.out _ | refine yab ?_ a7.out _ | refine yab ?_ a9.out _)) (upQ a3.out) (by decide)) hk (fun _ h => h.2)) (fun _ h => h.1))
               have n1_ := yaa (yak hk (upB a8.out) b7.out (by simp)); have n2_ := yaa (yak hk (upB a4.out) b5.out (by simp)); have n3_ := yaa (yak hk (upB b0.out) b9.out (by simp))
               have n4_ := yaa (yaq (by repeat (with_reducible first | exact HK.out | apply yah | apply yal | apply yap | apply yam | refine yac ?_ b1.out _ | refine yac ?_ b2.out _ | refine yac ?_ b4.out _)) hk (.inl rfl))
               have n5_ := yaa (hb); have n6_ := yaa (hi); clear a3; clear a8; clear a4; clear b0; clear HK; clear HB; clear HI0; have a3 := n0_; have a8 := n1_; have a4 := n2_; have b0 := n3_; have HK := n4_; have HB := n5_; have HI0 := n6_; clear n0_ n1_ n2_ n3_ n4_ n5_ n6_; (try clear hb); (try clear hb2); (try clear hk); (try clear hi)
               refine hK.out _ _ ⟨(yar a4.out 0).trans rfl, (yar a4.out 1).trans rfl, (yar a4.out 2).trans rfl⟩ (fun hHeld => ?_)
               clear hK K
               refine norm_ (a' := ?_) ?_ ?_
               rotate_left
               ·
                show Act.put _ (some 51) _ = _
                simp only [Act.put, List.setIfInBounds_toArray, List.set_cons_zero, List.set_cons_succ, i64_w, i32_w]
                rfl
               refine one_ (i := 7) (N := some 49) q16_20 rfl rfl (one_of HT_.out (by kernel_rfl)) (by decide) (fun K hK => ?_)
               refine Kd.R_lit_step (Kd.int .i64) _ 3 ?hg (N := 49) ?hd (xs := ([(-1), 256] : List Int)) (inner := [.int .i64 (-1), .int .i64 256]) (ok := fun _ => True) (okp := fun _ => True) ?hr ?hp (fun _ hk => hk) trivial (Below.refl _ _) (Nat.le_refl _) (by simp) ?_; (case hd => rfl); (case hg => rfl); (case hr => first | (go_simp; done) | (go_simp; rfl)); (case hp => exact (Reps.one (show Kd.M (Kd.int .i64) _ _ _ (-1) [.int .i64 (-1)] from rfl) (Reps.one (show Kd.M (Kd.int .i64) _ _ _ 256 [.int .i64 256] from rfl) (Reps.none _ _))))
               intro i1 w126 g3 hb hg_ hnew_; clear hg_ hnew_
               (first | rw [← Ny147.out] at g3 | (simp only [Int.reduceToNat] at g3; rw [← Ny147.out] at g3))
               have n0_ := yaa (Kd.Q_below (upQ a3.out) hb)
               have n1_ := yaa (Kd.R_lower g3 (keep_size (w := w) (g := g) (row := none) (by repeat (with_reducible first | exact HK.out | apply yah | apply yal | apply yap | apply yam | refine yac ?_ b1.out _ | refine yac ?_ b2.out _ | refine yac ?_ b4.out _))))
               have n2_ := yaa (yaw (upB a8.out) hb); have n3_ := yaa (yaw (upB a4.out) hb); have n4_ := yaa (yaw (upB b0.out) hb)
               have n5_ := yaa (IsS58.below (by repeat (with_reducible first | exact HI0.out | apply yad | apply yae | apply yai | apply yaf | refine yab ?_ a6.out _ | refine yab ?_ a7.out _ | refine yab ?_ a9.out _)) hb)
               have n6_ := yaa (yaq (by repeat (with_reducible first | exact HK.out | apply yah | apply yal | apply yap | apply yam | refine yac ?_ b1.out _ | refine yac ?_ b2.out _ | refine yac ?_ b4.out _)) (yaz hb g none) (.inl rfl))
               have n7_ := yaa (below_step (by repeat (with_reducible first | exact HB.out | apply yao | apply yaj | apply yan | refine yag ?_ (Aside0.out ‹_›) | refine yag ?_ (yas HI0.out))) hb)
               clear a3; clear a8; clear a4; clear b0; clear HI0; clear HK; clear HB; have a3 := n0_; have d3 := n1_; have a8 := n2_; have a4 := n3_; have b0 := n4_; have HI0 := n5_; have HK := n6_; have HB := n7_; clear n0_ n1_ n2_ n3_ n4_ n5_ n6_ n7_; clear hb g3; obtain ⟨R5, r6, r7⟩ := Kd.R_slice d3.out; subst r7; obtain ⟨ado128, fo128, _⟩ := Kd.at_int (Kd.R_reads' d3.out).2.2 0 (by decide) (by rw [Ny147.out]; simp)
               cases fo128
               refine hK.out _ _ ⟨(yar a4.out 0).trans rfl, (yar a4.out 1).trans rfl, (yar a4.out 2).trans rfl⟩ (fun hHeld => ?_)
               clear hK K
               refine norm_ (a' := ?_) ?_ ?_
               rotate_left
               ·
                show Act.put _ (some 49) _ = _
                simp only [Act.put, List.setIfInBounds_toArray, List.set_cons_zero, List.set_cons_succ, i64_w, i32_w]
                rfl
               exact norm_ (by simp only [putAll, Act.put, List.setIfInBounds_toArray, List.set_cons_zero, List.set_cons_succ]) (hCont (.slice (some ado128) y147.length r6, ado128) _ ⟨hHeld, (upR d3.out), (upQ a3.out), ⟨_, rfl⟩, (upB a8.out), (upB a4.out), (upB b0.out), (by repeat (with_reducible first | exact HI0.out | apply yad | apply yae | apply yai | apply yaf | refine yab ?_ a6.out _ | refine yab ?_ a7.out _ | refine yab ?_ a9.out _)), (by repeat (with_reducible first | exact HK.out | apply yah | apply yal | apply yap | apply yam | refine yac ?_ b1.out _ | refine yac ?_ b2.out _ | refine yac ?_ b4.out _)), (by repeat (with_reducible first | exact HB.out | apply yao | apply yaj | apply yan | refine yag ?_ (Aside0.out ‹_›) | refine yag ?_ (yas HI0.out)))⟩)
             ·
              skip
              refine Kd.R_lit_step (Kd.int .i64) _ 3 ?hg (N := 49) ?hd (xs := ([(-1), 256] : List Int)) (inner := [.int .i64 (-1), .int .i64 256]) (ok := fun _ => True) (okp := fun _ => True) ?hr ?hp (fun _ hk => hk) trivial (Below.refl _ _) (Nat.le_refl _) (by simp) ?_; (case hd => rfl); (case hg => rfl); (case hr => first | (go_simp; done) | (go_simp; rfl)); (case hp => exact (Reps.one (show Kd.M (Kd.int .i64) _ _ _ (-1) [.int .i64 (-1)] from rfl) (Reps.one (show Kd.M (Kd.int .i64) _ _ _ 256 [.int .i64 256] from rfl) (Reps.none _ _))))
              intro i1 w124 g4 hb hg_ hnew_; clear hg_ hnew_
              (first | rw [← Ny147.out] at g4 | (simp only [Int.reduceToNat] at g4; rw [← Ny147.out] at g4))
              have n0_ := yaa (Kd.Q_below (upQ a3.out) hb)
              have n1_ := yaa (Kd.R_lower g4 (keep_size (w := w) (g := g) (row := none) (by repeat (with_reducible first | exact HK.out | apply yah | apply yal | apply yap | apply yam | refine yac ?_ b1.out _ | refine yac ?_ b2.out _ | refine yac ?_ b4.out _))))
              have n2_ := yaa (yaw (upB a8.out) hb); have n3_ := yaa (yaw (upB a4.out) hb); have n4_ := yaa (yaw (upB b0.out) hb)
              have n5_ := yaa (IsS58.below (by repeat (with_reducible first | exact HI0.out | apply yad | apply yae | apply yai | apply yaf | refine yab ?_ a6.out _ | refine yab ?_ a7.out _ | refine yab ?_ a9.out _)) hb)
              have n6_ := yaa (yaq (by repeat (with_reducible first | exact HK.out | apply yah | apply yal | apply yap | apply yam | refine yac ?_ b1.out _ | refine yac ?_ b2.out _ | refine yac ?_ b4.out _)) (yaz hb g none) (.inl rfl))
              have n7_ := yaa (below_step (by repeat (with_reducible first | exact HB.out | apply yao | apply yaj | apply yan | refine yag ?_ (Aside0.out ‹_›) | refine yag ?_ (yas HI0.out))) hb)
              clear a3; clear a8; clear a4; clear b0; clear HI0; clear HK; clear HB; have a3 := n0_; have d3 := n1_; have a8 := n2_; have a4 := n3_; have b0 := n4_; have HI0 := n5_; have HK := n6_; have HB := n7_; clear n0_ n1_ n2_ n3_ n4_ n5_ n6_ n7_; clear hb g4; obtain ⟨R6, r8, r9⟩ := Kd.R_slice d3.out; subst r9; obtain ⟨ado126, fo126, _⟩ := Kd.at_int (Kd.R_reads' d3.out).2.2 0 (by decide) (by rw [Ny147.out]; simp)
              cases fo126
              refine hK.out _ _ ⟨(yar a4.out 0).trans rfl, (yar a4.out 1).trans rfl, (yar a4.out 2).trans rfl⟩ (fun hHeld => ?_)
              clear hK K
              refine norm_ (a' := ?_) ?_ ?_
              rotate_left
              ·
               show Act.put _ (some 49) _ = _
               simp only [Act.put, List.setIfInBounds_toArray, List.set_cons_zero, List.set_cons_succ, i64_w, i32_w]
               rfl
              refine one_ (i := 6) (N := some 48) q16_23 rfl rfl (one_of HT_.out (by kernel_rfl)) (by decide) (fun K hK => ?_)
              refine goes_ Try.func14 (by kernel_rfl) rfl #[.pointer (some ⟨g, 0, none⟩), .int .i64 (a5.length : Int)] (by rfl) rfl rfl (by (try simp only [List.map_toArray, List.map_cons, List.map_nil]); first | done | rfl | (simp only [List.length_drop, List.length_take]; rfl)) ?_
              with_reducible refine (spec_l20Rd_pick.calls k1 g s0_0 d8 (a5.length : Int) d4 f7 w0 _ ?side1 ?side2 q3.out).mono ?_
              (case side1 => repeat (with_reducible first | exact HI0.out | apply yad | apply yae | apply yai | apply yaf | refine yab ?_ a6.out _ | refine yab ?_ a7.out _ | refine yab ?_ a9.out _))
              (case side2 => repeat (with_reducible first | exact HB.out | apply yao | apply yaj | apply yan | refine yag ?_ (Aside0.out ‹_›) | refine yag ?_ (yas HI0.out)))
              rintro e w127 ⟨rfl, hi, hb, hk⟩; refine ⟨_, rfl, ?_⟩
              have n0_ := yaa (yau (yax (yat (show IsS58 w0 _ g s0_0 d8 from by repeat (with_reducible first | exact HI0.out | apply yad | apply yae | apply yai | apply yaf | refine yab ?_ a6.out _ | refine yab ?_ a7.out _ | refine yab ?_ a9.out _)) (upQ a3.out) (by decide)) hk (fun _ h => h.2)) (fun _ h => h.1))
              have n1_ := yaa (yak hk (upB a8.out) b7.out (by simp)); have n2_ := yaa (yak hk (upB a4.out) b5.out (by simp)); have n3_ := yaa (yak hk (upB b0.out) b9.out (by simp))
              have n4_ := yaa (Kd.R_mono (Kd.R_keep (IsS58.apart (show IsS58 w0 _ g s0_0 d8 from by repeat (with_reducible first | exact HI0.out | apply yad | apply yae | apply yai | apply yaf | refine yab ?_ a6.out _ | refine yab ?_ a7.out _ | refine yab ?_ a9.out _)) (upR d3.out) (by decide)) hk (fun _ h => h.2)) (fun _ h => h.1))
              have n5_ := yaa (yaq (by repeat (with_reducible first | exact HK.out | apply yah | apply yal | apply yap | apply yam | refine yac ?_ b1.out _ | refine yac ?_ b2.out _ | refine yac ?_ b4.out _)) hk (.inl rfl))
              have n6_ := yaa (hb); have n7_ := yaa (hi); clear a3; clear a8; clear a4; clear b0; clear d3; clear HK; clear HB; clear HI0; have a3 := n0_; have a8 := n1_; have a4 := n2_; have b0 := n3_; have d3 := n4_; have HK := n5_; have HB := n6_; have HI0 := n7_; clear n0_ n1_ n2_ n3_ n4_ n5_ n6_ n7_; (try clear hb); (try clear hb2); (try clear hk); (try clear hi)
              refine hK.out _ _ ⟨(yar a4.out 0).trans rfl, (yar a4.out 1).trans rfl, (yar a4.out 2).trans rfl⟩ (fun hHeld => ?_)
              clear hK K
              refine norm_ (a' := ?_) ?_ ?_
              rotate_left
              ·
               show Act.put _ (some 48) _ = _
               simp only [Act.put, List.setIfInBounds_toArray, List.set_cons_zero, List.set_cons_succ, i64_w, i32_w]
               rfl
              refine one_ (i := 9) (N := some 51) q16_20 rfl rfl (one_of HT_.out (by kernel_rfl)) (by decide) (fun K hK => ?_)
              refine goes_ Try.func14 (by kernel_rfl) rfl #[.pointer (some ⟨g, 0, none⟩), .int .i64 2] (by rfl) rfl rfl (by (try simp only [List.map_toArray, List.map_cons, List.map_nil]); first | done | rfl | (simp only [List.length_drop, List.length_take]; rfl)) ?_
              with_reducible refine (spec_l20Rd_pick.calls k1 g s0_0 f7 2 e1 g7 w0 _ ?side1 ?side2 m1.out).mono ?_
              (case side1 => repeat (with_reducible first | exact HI0.out | apply yad | apply yae | apply yai | apply yaf | refine yab ?_ a6.out _ | refine yab ?_ a7.out _ | refine yab ?_ a9.out _))
              (case side2 => repeat (with_reducible first | exact HB.out | apply yao | apply yaj | apply yan | refine yag ?_ (Aside0.out ‹_›) | refine yag ?_ (yas HI0.out)))
              rintro e w128 ⟨rfl, hi, hb, hk⟩; refine ⟨_, rfl, ?_⟩
              have n0_ := yaa (yau (yax (yat (show IsS58 w0 _ g s0_0 f7 from by repeat (with_reducible first | exact HI0.out | apply yad | apply yae | apply yai | apply yaf | refine yab ?_ a6.out _ | refine yab ?_ a7.out _ | refine yab ?_ a9.out _)) (upQ a3.out) (by decide)) hk (fun _ h => h.2)) (fun _ h => h.1))
              have n1_ := yaa (yak hk (upB a8.out) b7.out (by simp)); have n2_ := yaa (yak hk (upB a4.out) b5.out (by simp)); have n3_ := yaa (yak hk (upB b0.out) b9.out (by simp))
              have n4_ := yaa (Kd.R_mono (Kd.R_keep (IsS58.apart (show IsS58 w0 _ g s0_0 f7 from by repeat (with_reducible first | exact HI0.out | apply yad | apply yae | apply yai | apply yaf | refine yab ?_ a6.out _ | refine yab ?_ a7.out _ | refine yab ?_ a9.out _)) (upR d3.out) (by decide)) hk (fun _ h => h.2)) (fun _ h => h.1))
              have n5_ := yaa (yaq (by repeat (with_reducible first | exact HK.out | apply yah | apply yal | apply yap | apply yam | refine yac ?_ b1.out _ | refine yac ?_ b2.out _ | refine yac ?_ b4.out _)) hk (.inl rfl))
              have n6_ := yaa (hb); have n7_ := yaa (hi); clear a3; clear a8; clear a4; clear b0; clear d3; clear HK; clear HB; clear HI0; have a3 := n0_; have a8 := n1_; have a4 := n2_; have b0 := n3_; have d3 := n4_; have HK := n5_; have HB := n6_; have HI0 := n7_; clear n0_ n1_ n2_ n3_ n4_ n5_ n6_ n7_; (try clear hb); (try clear hb2); (try clear hk); (try clear hi)
              refine hK.out _ _ ⟨(yar a4.out 0).trans rfl, (yar a4.out 1).trans rfl, (yar a4.out 2).trans rfl⟩ (fun hHeld => ?_)
              clear hK K
              refine norm_ (a' := ?_) ?_ ?_
              rotate_left
              ·
               show Act.put _ (some 51) _ = _
               simp only [Act.put, List.setIfInBounds_toArray, List.set_cons_zero, List.set_cons_succ, i64_w, i32_w]
               rfl
              exact norm_ (by simp only [putAll, Act.put, List.setIfInBounds_toArray, List.set_cons_zero, List.set_cons_succ]) (hCont (.slice (some ado126) y147.length r8, ado126) _ ⟨hHeld, (upR d3.out), (upQ a3.out), ⟨_, rfl⟩, (upB a8.out), (upB a4.out), (upB b0.out), (by repeat (with_reducible first | exact HI0.out | apply yad | apply yae | apply yai | apply yaf | refine yab ?_ a6.out _ | refine yab ?_ a7.out _ | refine yab ?_ a9.out _)), (by repeat (with_reducible first | exact HK.out | apply yah | apply yal | apply yap | apply yam | refine yac ?_ b1.out _ | refine yac ?_ b2.out _ | refine yac ?_ b4.out _)), (by repeat (with_reducible first | exact HB.out | apply yao | apply yaj | apply yan | refine yag ?_ (Aside0.out ‹_›) | refine yag ?_ (yas HI0.out)))⟩)
            rintro ⟨i1, e9⟩ w129 ⟨hS_, h0_, h1_, h2_, h3_, h4_, h5_, h6_, h7_, h8_⟩; have n0_ : yba (Kd.R (Kd.int .i64) 3 w129 w.heap.size (fun _ => True) i1 y147) := ⟨h0_⟩; have n1_ : yba (Kd.Q k53 53 w129 w.heap.size (fun k_ => k_ ≠ c9) (.slice e8 a5.length e2) a5) := ⟨h1_⟩; have n2_ : yba (∃ c_, (i1 : Value) = .slice (some e9) y147.length c_) := ⟨h2_⟩; have n3_ : yba (w129.heap[c6]? = some (.cells #[.int .i64 0, .int .i64 0, .slice none 0 0] 25 (0, 0))) := ⟨h3_⟩; have n4_ : yba (w129.heap[c4]? = some (.cells #[.int .i64 (wrap64 (1 + c5)), .int .i64 (wrap64 (1 + d2)), .slice e8 a5.length e2] 25 (0, 0))) := ⟨h4_⟩; have n5_ : yba (w129.heap[c9]? = some (.cells #[.int .i64 c3, .int .i64 b8, .int .i64 b6, .int .i64 b3] 53 (0, 0))) := ⟨h5_⟩; have n6_ : yba (IsS58 w0 w129 g s0_0 g7) := ⟨h6_⟩; have n7_ : yba (KeepBut w w129 g none) := ⟨h7_⟩; have n8_ : yba (Below w0.heap.size w0 w129) := ⟨h8_⟩; clear a3; clear a8; clear a4; clear b0; clear HI0; clear HK; clear HB; clear h0_ h1_ h2_ h3_ h4_ h5_ h6_ h7_ h8_; have d3 := n0_; have a3 := n1_; have g5 := n2_; have a8 := n3_; have a4 := n4_; have b0 := n5_; have HI0 := n6_; have HK := n7_; have HB := n8_; clear n0_ n1_ n2_ n3_ n4_ n5_ n6_ n7_ n8_; have hHeld : w129.cell? ⟨c4, 0, none⟩ = some (.int .i64 (wrap64 (1 + c5))) ∧ w129.cell? ⟨c4, 1, none⟩ = some (.int .i64 (wrap64 (1 + d2))) ∧ w129.cell? ⟨c4, 2, none⟩ = some (.slice e8 a5.length e2) := hS_; obtain ⟨s0, s1⟩ := g5.out; clear g5; subst s1; have p115 : 0 ≤ (d4 : Int) := of_decide_eq_true (by assumption); have q115 : (d4 : Int) < ((a5.length : Int) : Int) := of_decide_eq_true (by assumption); obtain ⟨go115, oo115, R7, l3, l4, gl115, R8, HG115⟩ := Kd.Q_form a3.out (by omega)
            (first | cases l3 | (injection l3 with ea_ en_ ec_; (first | subst ea_ | (injection ea_ with ea_; subst ea_)); subst ec_; clear en_))
            have GB115 := yaa l4; have GG115 := yaa HG115; clear l4 gl115 HG115; obtain ⟨R9, hcl115, hM115, hcc115, hfr115⟩ := Kd.Q_elem a3.out z53 (d4 : Int) p115 q115; obtain rfl := k53_openM hM115; have G9 : World.cell? _ ⟨go115, oo115 + (d4 : Int).toNat * 4, none⟩ = some (.int .i64 ((rd_T53 a5 d4).f0)) := hcc115 0 _ rfl; have H0 : World.cell? _ ⟨go115, oo115 + (d4 : Int).toNat * 4 + 1, none⟩ = some (.int .i64 ((rd_T53 a5 d4).f1)) := hcc115 1 _ rfl; have H1 : World.cell? _ ⟨go115, oo115 + (d4 : Int).toNat * 4 + 2, none⟩ = some (.int .i64 ((rd_T53 a5 d4).f2)) := hcc115 2 _ rfl; have H2 : World.cell? _ ⟨go115, oo115 + (d4 : Int).toNat * 4 + 3, none⟩ = some (.int .i64 ((rd_T53 a5 d4).f3)) := hcc115 3 _ rfl; have hf115_0 : World.frozen? _ ⟨go115, oo115 + (d4 : Int).toNat * 4, none⟩ = false := hfr115 0; have hf115_1 : World.frozen? _ ⟨go115, oo115 + (d4 : Int).toNat * 4 + 1, none⟩ = false := hfr115 1; have hf115_2 : World.frozen? _ ⟨go115, oo115 + (d4 : Int).toNat * 4 + 2, none⟩ = false := hfr115 2; have hf115_3 : World.frozen? _ ⟨go115, oo115 + (d4 : Int).toNat * 4 + 3, none⟩ = false := hfr115 3; clear hcl115 hcc115 hfr115 hM115; replace p115 := eq_true p115; replace q115 := eq_true q115; have HN0_go115 := yaa (show g ≠ go115 from by have h_ := IsS58.own_neQ HI0.out a3.out (by decide); intro e_; exact h_ (by rw [e_]; rfl))
            obtain ⟨S0, hcl131, hM131, hcc131, hfr131⟩ := Kd.Q_elem a3.out z53 (d4 : Int) (of_decide_eq_true (by assumption)) (by have h_ : (d4 : Int) < ((a5.length : Int) : Int) := of_decide_eq_true (by assumption); first | exact h_ | (have e_ := (Kd.Q_reads' a3.out).1; omega) | simpa using h_)
            obtain rfl := k53_openM hM131
            have HP131 := (Kd.Q_seg a3.out (d4 : Int) (of_decide_eq_true (by assumption)) (by have h_ : (d4 : Int) < ((a5.length : Int) : Int) := of_decide_eq_true (by assumption); first | exact h_ | (have e_ := (Kd.Q_reads' a3.out).1; omega) | simpa using h_) (seg := [.int .i64 (rd y147 e1)]) (j := 1) hcl131 hcc131 (show 2 ≤ 4 from by decide) (x' := (⟨(rd_T53 a5 d4).f0, rd y147 e1, (rd_T53 a5 d4).f2, (rd_T53 a5 d4).f3⟩ : S53)) (k53_mkM _ _ _ (⟨(rd_T53 a5 d4).f0, rd y147 e1, (rd_T53 a5 d4).f2, (rd_T53 a5 d4).f3⟩ : S53) ) (fun _ hk => hk)).1
            rw [← Ny153.out] at HP131
            have HQ131 := yaa HP131; clear hcl131 hcc131 hfr131 hM131 HP131
            refine norm_ (a' := ?_) ?_ ?_
            rotate_left
            ·
             simp only [putAll, Act.put, List.setIfInBounds_toArray, List.set_cons_zero, List.set_cons_succ]
             rfl
            refine pz_ 10 52 q16_25 HT_ (by kernel_rfl) ?_
            refine one_ (i := 11) (N := some 53) q16_26 rfl rfl (one_of HT_.out (by kernel_rfl)) (by decide) (fun K hK => ?_)
            (have p152 : 0 ≤ (e1 : Int) := of_decide_eq_true (by assumption); have q152 : e1 < (y147.length : Int) := of_decide_eq_true (by assumption); obtain ⟨ad152, J7, k6⟩ := Kd.at_int (Kd.R_reads' d3.out).2.2 e1 p152 q152; obtain rfl : e9 = ad152 := (by injection J7))
            refine value_ (w1 := ?_) (v := ?_) (by rfl) rfl ?_ ?_
            rotate_left 2
            ·
             go_simp
             constructor
             ·
              rfl
             ·
              rfl
            clear k6
            refine hK.out _ _ ⟨(yar a4.out 0).trans rfl, (yar a4.out 1).trans rfl, (yar a4.out 2).trans rfl⟩ (fun hHeld => ?_)
            clear hK K
            refine norm_ (a' := ?_) ?_ ?_
            rotate_left
            ·
             show Act.put _ (some 53) _ = _
             simp only [Act.put, List.setIfInBounds_toArray, List.set_cons_zero, List.set_cons_succ, i64_w, i32_w]
             rfl
            refine pz_ 12 54 q16_27 HT_ (by kernel_rfl) ?_
            refine pz_ 13 55 q16_28 HT_ (by kernel_rfl) ?_
            refine last_ (i := 14) (N := none) q16_29 rfl rfl (one_of HT_.out (by kernel_rfl)) (by decide) (fun K hK => ?_)
            refine skip_ (w1 := ?_) (by rfl) rfl ?_ ?_
            rotate_left
            ·
             go_simp
             rfl
            refine hK.out _ _ ?_
            clear hK K
            refine done_ (done_of HT_.out (by kernel_rfl)) ?_
            generalize hg_ : (w129.setCell ⟨go115, oo115 + (d4 : Int).toNat * 4 + 1, none⟩ (.int .i64 (rd y147 e1))) = w132
            replace d3 : yba (Kd.R (Kd.int .i64) 3 w132 w.heap.size (fun _ => True) (.slice (some e9) y147.length s0) y147) := ⟨by subst hg_; (with_reducible repeat (first | apply Kd.R_alloc | apply Kd.R_drewN | apply Kd.R_drew)); exact Kd.R_mono (Kd.R_far (p := ⟨go115, oo115 + (d4 : Int).toNat * 4 + 1, none⟩) (Kd.R_types d3.out GG115.out (by decide)) (fun _ hk => hk.2) (.int .i64 (rd y147 e1))) (fun _ hk => trivial)⟩
            replace a8 : yba (w132.heap[c6]? = some (.cells #[.int .i64 0, .int .i64 0, .slice none 0 0] 25 (0, 0))) := ⟨by subst hg_; (repeat refine oneB ?_); refine blk_far ?_ (by have h_ := Kd.Q_ne a3.out a8.out (by decide); intro e_; exact h_ (by rw [e_]; rfl)) _; exact upB a8.out⟩; replace a4 : yba (w132.heap[c4]? = some (.cells #[.int .i64 (wrap64 (1 + c5)), .int .i64 (wrap64 (1 + d2)), .slice (some ⟨go115, oo115, none⟩) a5.length e2] 25 (0, 0))) := ⟨by subst hg_; (repeat refine oneB ?_); refine blk_far ?_ (by have h_ := Kd.Q_ne a3.out a4.out (by decide); intro e_; exact h_ (by rw [e_]; rfl)) _; exact upB a4.out⟩; replace b0 : yba (w132.heap[c9]? = some (.cells #[.int .i64 c3, .int .i64 b8, .int .i64 b6, .int .i64 b3] 53 (0, 0))) := ⟨by subst hg_; (repeat refine oneB ?_); refine blk_far ?_ (by have h_ := Kd.Q_away a3.out (fun _ hk => hk); intro e_; exact h_ (by rw [e_]; rfl)) _; exact upB b0.out⟩
            replace a3 : yba (Kd.Q k53 53 w132 w.heap.size (fun k_ => k_ ≠ c9) (.slice (some ⟨go115, oo115, none⟩) a5.length e2) y153) := ⟨by subst hg_; first | exact HQ131.out | exact upQ HQ131.out⟩
            replace HK : yba (KeepBut w w132 g none) := ⟨by subst hg_; repeat (with_reducible first | exact HK.out | apply yah | apply yal | apply yap | apply yam | refine yac ?_ GB115.out _ | refine yac ?_ b1.out _ | refine yac ?_ b2.out _ | refine yac ?_ b4.out _)⟩
            replace HB : yba (Below w0.heap.size w0 w132) := ⟨by subst hg_; repeat (with_reducible first | exact HB.out | apply yao | apply yaj | apply yan | refine yag ?_ (Aside0.out ‹_›) | refine yag ?_ (Nat.le_trans HL.out GB115.out) | refine yag ?_ (yas HI0.out))⟩
            replace HI0 : yba (IsS58 w0 w132 g s0_0 g7) := ⟨by subst hg_; repeat (with_reducible first | exact HI0.out | apply yad | apply yae | apply yai | apply yaf | refine yab ?_ HN0_go115.out _ | refine yab ?_ a6.out _ | refine yab ?_ a7.out _ | refine yab ?_ a9.out _)⟩
            clear hg_; obtain ⟨s2, s3, s4⟩ := cc3_ a4.out; obtain ⟨s5, s6, s7⟩ := cf3_ a4.out; have J8 := d0.out; have J9 := d6.out; have K0 := b7.out; have K1 := a6.out; obtain ⟨s8, s9, t0⟩ := cc3_ a8.out; obtain ⟨t1, t2, t3⟩ := cf3_ a8.out
            try go_wp2
            refine bodyPost_ret (results_cell_row rfl _ _ c6 25 #[.int .i64 (wrap64 (1 + c5)), .int .i64 (wrap64 (1 + d2)), .slice (some ⟨go115, oo115, none⟩) a5.length e2] (0, 0) _ rfl (by (repeat refine oneB ?_); refine yav (cs := #[.int .i64 (wrap64 (1 + c5)), .int .i64 (wrap64 (1 + d2)), .slice none 0 0]) ?_ 2 _ rfl; refine yav (cs := #[.int .i64 (wrap64 (1 + c5)), .int .i64 0, .slice none 0 0]) ?_ 1 _ rfl; refine yav (cs := #[.int .i64 0, .int .i64 0, .slice none 0 0]) ?_ 0 _ rfl; exact upB a8.out) Try.underlying25 rfl (by kernel_rfl)) rfl ?_
            exact ⟨_, by first | rfl | (simp [*, errW_none, errW_some] <;> rfl), by (with_reducible repeat (first | apply Kd.Q_alloc | apply Kd.Q_drewN | apply Kd.Q_drew)); exact yau (yay (p := ⟨c6, 2, none⟩) (yay (p := ⟨c6, 1, none⟩) (yay (p := ⟨c6, 0, none⟩) (Kd.Q_types a3.out a8.out (by decide)) (fun _ hk => hk.2) (.int .i64 (wrap64 (1 + c5)))) (fun _ hk => hk.2) (.int .i64 (wrap64 (1 + d2)))) (fun _ hk => hk.2) (.slice (some ⟨go115, oo115, none⟩) a5.length e2)) (fun _ hk => trivial), by repeat (with_reducible first | exact HI0.out | apply yad | apply yae | apply yai | apply yaf | refine yab ?_ a6.out _ | refine yab ?_ a7.out _ | refine yab ?_ a9.out _), by repeat (with_reducible first | exact HB.out | apply yao | apply yaj | apply yan | refine yag ?_ (Aside0.out ‹_›) | refine yag ?_ (yas HI0.out)), by repeat (with_reducible first | exact HK.out | apply yah | apply yal | apply yap | apply yam | refine yac ?_ b1.out _ | refine yac ?_ b2.out _ | refine yac ?_ b4.out _)⟩
           ·
            rw [if_neg k5] at H
            exact absurd H (by simp)
          ·
           rw [if_neg k4] at H
           exact absurd H (by simp)
         ·
          rw [if_neg k3] at H
          exact absurd H (by simp)
        ·
         rw [if_neg k2] at H
         exact absurd H (by simp)
    ·
     replace c51 := Bool.eq_false_iff.mpr c51
     subst c51
     rw [if_neg (show ¬ (false = true) by decide)] at H
     simp only [Option.some.injEq, Prod.mk.injEq] at H
     obtain ⟨rfl, rfl, rfl, rfl⟩ := H; have K2 := d5.out; have K3 := c0.out; have K4 := c7.out; have K5 := d1.out; have K6 := b5.out; have K7 := a7.out; obtain ⟨t4, t5, t6⟩ := cc3_ a4.out; obtain ⟨t7, t8, t9⟩ := cf3_ a4.out
     go_wp2_with (first | ((with_reducible refine gc_ 13 rfl ?_); refine gl_ (some 39) rfl Try.func13 #[.pointer (some ⟨g, 0, none⟩), .int .i64 a1] ?_; (with_reducible refine (spec_l20Rd_odd.calls k1 g s0_0 c8 a1 false e6 w0 _ ?side1 ?side2 A50.out).mono ?_); (case side1 => repeat (with_reducible first | exact HI0.out | apply yad | apply yae | apply yai | apply yaf | refine yab ?_ a6.out _ | refine yab ?_ a7.out _ | refine yab ?_ a9.out _)); (case side2 => repeat (with_reducible first | exact HB.out | apply yao | apply yaj | apply yan | refine yag ?_ (Aside0.out ‹_›) | refine yag ?_ (yas HI0.out))); rintro e w141 ⟨rfl, hi, hb, hk⟩; refine ⟨_, rfl, ?_⟩; replace a3 := yaa (yau (yax (yat (show IsS58 w0 _ g s0_0 c8 from by repeat (with_reducible first | exact HI0.out | apply yad | apply yae | apply yai | apply yaf | refine yab ?_ a6.out _ | refine yab ?_ a7.out _ | refine yab ?_ a9.out _)) (upQ a3.out) (by decide)) hk (fun _ h => h.2)) (fun _ h => h.1)); replace a8 := yaa (yak hk (upB a8.out) b7.out (by simp)); replace a4 := yaa (yak hk (upB a4.out) b5.out (by simp)); replace b0 := yaa (yak hk (upB b0.out) b9.out (by simp)); replace HK := yaa (yaq (by repeat (with_reducible first | exact HK.out | apply yah | apply yal | apply yap | apply yam | refine yac ?_ b1.out _ | refine yac ?_ b2.out _ | refine yac ?_ b4.out _)) hk (.inl rfl)); replace HB := yaa (hb); replace HI0 := yaa (hi); (try clear hb hk hi); obtain ⟨u0, u1, u2⟩ := cc3_ a4.out; obtain ⟨u3, u4, u5⟩ := cf3_ a4.out; have K8 := d0.out; have K9 := d6.out; have L0 := b7.out; have L1 := a6.out; obtain ⟨u6, u7, u8⟩ := cc3_ a8.out; obtain ⟨u9, v0, v1⟩ := cf3_ a8.out; obtain ⟨l5, l6, v2, _⟩ := Kd.Q_slice a3.out; subst v2))
     refine bodyPost_ret (results_cell_row rfl _ _ c6 25 #[.int .i64 (wrap64 (1 + c5)), .int .i64 (wrap64 (1 + d2)), .slice l5 a5.length l6] (0, 0) _ rfl (by (repeat refine oneB ?_); refine yav (cs := #[.int .i64 (wrap64 (1 + c5)), .int .i64 (wrap64 (1 + d2)), .slice none 0 0]) ?_ 2 _ rfl; refine yav (cs := #[.int .i64 (wrap64 (1 + c5)), .int .i64 0, .slice none 0 0]) ?_ 1 _ rfl; refine yav (cs := #[.int .i64 0, .int .i64 0, .slice none 0 0]) ?_ 0 _ rfl; exact upB a8.out) Try.underlying25 rfl (by kernel_rfl)) rfl ?_
     exact ⟨_, by first | rfl | (simp [*, errW_none, errW_some] <;> rfl), by (with_reducible repeat (first | apply Kd.Q_alloc | apply Kd.Q_drewN | apply Kd.Q_drew)); exact yau (yay (p := ⟨c6, 2, none⟩) (yay (p := ⟨c6, 1, none⟩) (yay (p := ⟨c6, 0, none⟩) (Kd.Q_types a3.out a8.out (by decide)) (fun _ hk => hk.2) (.int .i64 (wrap64 (1 + c5)))) (fun _ hk => hk.2) (.int .i64 (wrap64 (1 + d2)))) (fun _ hk => hk.2) (.slice l5 a5.length l6)) (fun _ hk => trivial), by repeat (with_reducible first | exact HI0.out | apply yad | apply yae | apply yai | apply yaf | refine yab ?_ a6.out _ | refine yab ?_ a7.out _ | refine yab ?_ a9.out _), by repeat (with_reducible first | exact HB.out | apply yao | apply yaj | apply yan | refine yag ?_ (Aside0.out ‹_›) | refine yag ?_ (yas HI0.out)), by repeat (with_reducible first | exact HK.out | apply yah | apply yal | apply yap | apply yam | refine yac ?_ b1.out _ | refine yac ?_ b2.out _ | refine yac ?_ b4.out _)⟩
end
end Go.Proofs.Ytljobjpldbdhoaa.X
