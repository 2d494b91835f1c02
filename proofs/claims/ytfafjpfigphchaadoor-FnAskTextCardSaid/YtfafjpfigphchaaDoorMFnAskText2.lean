/- Lemmas and contracts for the law FnAskText, part 2: of the program's functions, and over data alone. Conditions: the listed package-level variables begin as the program's text lays them (tied by the card). -/
import Derived.Test.YtfafjpfigphchaaDoorMFnAskText1
import Derived.Test.YtfafjpfigphchaaDoorProg
import Derived.Below
import Derived.Deep.Draws
import Derived.Deep.AppendLies
import Derived.Maps.AppendAt
import Derived.OwnWalk
import Derived.Laws.BytesArg
import Derived.Laws.MakeOwn
import Derived.Laws.OwnMore
import Derived.Deep.OwnRows
import Derived.Tactics
import Derived.Lib.ConvBytes
import Derived.Laws.Slices
import Derived.WalkKit
import Derived.KernelRfl
import Derived.RowKit3
import Derived.Deep.LoopGhost
import Derived.Deep.QuietTactic
import Derived.BigQuiet
import Derived.WideLaws
import Derived.Deep.DeepCutAuto
import Derived.Deep.CutBlock
import Derived.Deep.RegionHeld3
import Derived.Laws.Rows
import Derived.Lib.AppendStr
import Derived.ArgAppend
import Derived.Laws.IdiomCopy
import Derived.OrdersHeld
import Derived.Laws.BitsLemmas
import Derived.RowKit
namespace Go.Proofs.YtfafjpfigphchaaDoorW.PrintLast
open Go.RowKit Go.Proofs.YtfafjpfigphchaaDoorW.PrintWords
variable {P : Program} {ops : Array Oper} {Q : Exit → Act → World → Prop} {S : World → Prop} {ds : List Nat}
/-- An operation that yields in every world. -/
theorem pz_ {T : Bool × List (List Nat × List Nat)} {oi : Oper} {v : Value} {fuel : Nat} {l : Array Bool} {a : Act} {w : World} (i d : Nat) (l' : Array Bool) (hT : Aside0 (rtab .any ops = T)) (hc : anyT T l.toList l'.toList i = true) {a' : Act}
    (h : wpAnyLast P .any ops Q S ds fuel l' a' w)
    (hi : ops[i]? = some oi := by rfl) (hN : oi.dst = some d := by rfl) (hw : Region.wanted oi (yielded ops a.tmps) = true := by rfl)
    (hy : ∀ w', (execOp a.eval oi).run P w' = .ok (.value v) w' := by (intro w'; go_simp; with_reducible rfl))
    (ha : a.put (some d) v = a' := by (simp only [Act.put, List.setIfInBounds_toArray, List.set_cons_zero, List.set_cons_succ, i64_w, i32_w]; rfl))
    (hQ : ∀ c a w, Q (.panic c) (a.put oi.dst v) w → Q (.panic c) a w := by exact fun _ _ _ h => h) :
    wpAnyLast P .any ops Q S ds (fuel + 1) l a w :=
  pure_ l' hi hN (any_of hT.out hc) hQ (Or.inl ⟨hw, hy⟩) ha h
/-- An operation that reads what S says. -/
theorem tz_ {T : Bool × List (List Nat × List Nat)} {B : List Nat} {oi : Oper} {v : Value} {fuel : Nat} {l : Array Bool} {a : Act} {w : World} (i d : Nat) (l' : Array Bool) (hT : Aside0 (rtab .any ops = T)) (hB : Aside0 (waitsOk T.2 B = true)) (hc : takeW T B ds l.toList l'.toList i = true) (hS : S w) {a' : Act}
    (h : wpAnyLast P .any ops Q S ds fuel l' a' w)
    (hi : ops[i]? = some oi := by rfl) (hN : oi.dst = some d := by rfl) (hw : Region.wanted oi (yielded ops a.tmps) = true := by rfl)
    (hy : ∀ w', S w' → (execOp a.eval oi).run P w' = .ok (.value v) w' := by (intro w' hs; go_simp; with_reducible rfl))
    (ha : a.put (some d) v = a' := by (simp only [Act.put, List.setIfInBounds_toArray, List.set_cons_zero, List.set_cons_succ, i64_w, i32_w]; rfl))
    (hQ : ∀ c a w, Q (.panic c) (a.put oi.dst v) w → Q (.panic c) a w := by exact fun _ _ _ h => h) :
    wpAnyLast P .any ops Q S ds (fuel + 1) l a w :=
  take_ l' hi hN (take_ofW hT.out hB.out hc) hQ (Or.inl ⟨hw, hy⟩) hS ha h
/-- An operation that is not wanted. -/
theorem pu_ {T : Bool × List (List Nat × List Nat)} {oi : Oper} {fuel : Nat} {l : Array Bool} {a : Act} {w : World} (i d : Nat) (l' : Array Bool) (hT : Aside0 (rtab .any ops = T)) (hc : anyT T l.toList l'.toList i = true) {a' : Act}
    (h : wpAnyLast P .any ops Q S ds fuel l' a' w)
    (hi : ops[i]? = some oi := by rfl) (hN : oi.dst = some d := by rfl) (hw : Region.wanted oi (yielded ops a.tmps) = false := by rfl)
    (ha : a.put (some d) undef = a' := by (simp only [Act.put, List.setIfInBounds_toArray, List.set_cons_zero, List.set_cons_succ, i64_w, i32_w]; rfl))
    (hQ : ∀ c a w, Q (.panic c) (a.put oi.dst undef) w → Q (.panic c) a w := by exact fun _ _ _ h => h) :
    wpAnyLast P .any ops Q S ds (fuel + 1) l a w :=
  pure_ l' hi hN (any_of hT.out hc) hQ (Or.inr ⟨hw, rfl⟩) ha h
/-! ### What is kept in a world that was made of another one by making blocks and by drawing -/
class UpW (w w' : World) : Prop where
  step : ∀ K : World → Prop, (∀ v O, K v → K (v.alloc O)) → (∀ v, K v → K v.drew) → (∀ v n, K v → K (v.drewN n)) → K w → K w'
instance upw_refl (w : World) : UpW w w := ⟨fun _ _ _ _ h => h⟩
instance upw_alloc (w w' : World) (O : Obj) [h : UpW w w'] : UpW w (w'.alloc O) := ⟨fun K a b c k => a _ _ (h.step K a b c k)⟩
instance upw_drew (w w' : World) [h : UpW w w'] : UpW w w'.drew := ⟨fun K a b c k => b _ (h.step K a b c k)⟩
instance upw_drewN (w w' : World) (n : Nat) [h : UpW w w'] : UpW w (w'.drewN n) := ⟨fun K a b c k => c _ _ (h.step K a b c k)⟩
theorem upB {w w' : World} {g : Nat} {o : Obj} (h : w.heap[g]? = some o) [u : UpW w w'] : w'.heap[g]? = some o := u.step (fun v => v.heap[g]? = some o) (fun _ O k => blk_alloc k O) (fun _ k => blk_drew k) (fun _ n k => blk_drewN k n) h
theorem upR {α : Type} {d : Kd α} {e base : Nat} {ok : Nat → Prop} {w w' : World} {v : Value} {xs : List α} (h : d.R e w base ok v xs) [u : UpW w w'] : d.R e w' base ok v xs := u.step (fun x => d.R e x base ok v xs) (fun _ O k => Kd.R_alloc k O) (fun _ k => Kd.R_drew k) (fun _ n k => Kd.R_drewN k n) h
theorem upH {w0 w w' : World} (h : Below w0.heap.size w0 w) [u : UpW w w'] : Below w0.heap.size w0 w' := u.step (fun x => Below w0.heap.size w0 x) (fun _ O k => below_alloc k O) (fun _ k => below_drew1 k) (fun _ n k => pw_below_drewN k n) h
/-- One world made of another by making a block or by drawing. -/
class OneW (w : outParam World) (w' : World) : Prop where
  up : UpW w w'
instance onew_alloc (w : World) (O : Obj) : OneW w (w.alloc O) := ⟨inferInstance⟩
instance onew_drew (w : World) : OneW w w.drew := ⟨inferInstance⟩
instance onew_drewN (w : World) (n : Nat) : OneW w (w.drewN n) := ⟨inferInstance⟩
theorem oneB {w w' : World} {g : Nat} {o : Obj} (h : w.heap[g]? = some o) [u : OneW w w'] : w'.heap[g]? = some o := @upB _ _ _ _ h u.up
/-! ### Cells of a block -/
section
variable {w : World} {g t : Nat} {a b c d e f i j k : Value}
theorem cc3_ (h : w.heap[g]? = some (.cells #[a, b, c] t (0, 0))) : w.cell? ⟨g, 0, none⟩ = some a ∧ w.cell? ⟨g, 1, none⟩ = some b ∧ w.cell? ⟨g, 2, none⟩ = some c := ⟨(blk_cell h 0).trans rfl, (blk_cell h 1).trans rfl, (blk_cell h 2).trans rfl⟩
theorem cc4_ (h : w.heap[g]? = some (.cells #[a, b, c, d] t (0, 0))) : w.cell? ⟨g, 0, none⟩ = some a ∧ w.cell? ⟨g, 1, none⟩ = some b ∧ w.cell? ⟨g, 2, none⟩ = some c ∧ w.cell? ⟨g, 3, none⟩ = some d := ⟨(blk_cell h 0).trans rfl, (blk_cell h 1).trans rfl, (blk_cell h 2).trans rfl, (blk_cell h 3).trans rfl⟩
theorem cc5_ (h : w.heap[g]? = some (.cells #[a, b, c, d, e] t (0, 0))) : w.cell? ⟨g, 0, none⟩ = some a ∧ w.cell? ⟨g, 1, none⟩ = some b ∧ w.cell? ⟨g, 2, none⟩ = some c ∧ w.cell? ⟨g, 3, none⟩ = some d ∧ w.cell? ⟨g, 4, none⟩ = some e := ⟨(blk_cell h 0).trans rfl, (blk_cell h 1).trans rfl, (blk_cell h 2).trans rfl, (blk_cell h 3).trans rfl, (blk_cell h 4).trans rfl⟩
variable {cs : Array Value}
theorem cf2_ (h : w.heap[g]? = some (.cells cs t (0, 0))) : w.frozen? ⟨g, 0, none⟩ = false ∧ w.frozen? ⟨g, 1, none⟩ = false := ⟨blk_frozen h 0, blk_frozen h 1⟩
theorem cf3_ (h : w.heap[g]? = some (.cells cs t (0, 0))) : w.frozen? ⟨g, 0, none⟩ = false ∧ w.frozen? ⟨g, 1, none⟩ = false ∧ w.frozen? ⟨g, 2, none⟩ = false := ⟨blk_frozen h 0, blk_frozen h 1, blk_frozen h 2⟩
theorem cf4_ (h : w.heap[g]? = some (.cells cs t (0, 0))) : w.frozen? ⟨g, 0, none⟩ = false ∧ w.frozen? ⟨g, 1, none⟩ = false ∧ w.frozen? ⟨g, 2, none⟩ = false ∧ w.frozen? ⟨g, 3, none⟩ = false := ⟨blk_frozen h 0, blk_frozen h 1, blk_frozen h 2, blk_frozen h 3⟩
theorem cf5_ (h : w.heap[g]? = some (.cells cs t (0, 0))) : w.frozen? ⟨g, 0, none⟩ = false ∧ w.frozen? ⟨g, 1, none⟩ = false ∧ w.frozen? ⟨g, 2, none⟩ = false ∧ w.frozen? ⟨g, 3, none⟩ = false ∧ w.frozen? ⟨g, 4, none⟩ = false := ⟨blk_frozen h 0, blk_frozen h 1, blk_frozen h 2, blk_frozen h 3, blk_frozen h 4⟩
end
theorem upc_ {w w' : World} {a : Addr} {v : Value} (hb : Below w.heap.size w w') (h : w.cell? a = some v) : w'.cell? a = some v := (hb.cell (World.block_lt_of_cell? w _ h)).trans h
/-- A step of what a function comes to. -/
theorem bindA {α β : Type} {x : Option α} {f : α → Option β} {r : β} (H : x.bind f = some r) : ∃ a, Aside0 (x = some a) ∧ f a = some r := by
  obtain ⟨a, h, k⟩ := Option.bind_eq_some_iff.mp H
  exact ⟨a, ⟨h⟩, k⟩
/-- n signs, off a number. -/
def bl_ (n m : Nat) : Array Bool := ((List.range n).map fun i => m.testBit i).toArray
theorem bindY {α β : Type} {L : α} {F : α → Option β} {r : Option β} (H : (some L).bind F = r) : ∃ y, y = L ∧ F y = r := ⟨L, rfl, H⟩
section
variable {P : Program} {ops : Array Oper} {rest : List Oper} {o : Oper} {a : Act} {Q : Exit → Act → World → Prop}
/-- A block is made. -/
theorem bx_ {W : World} (N : Tmp) (hd : o.dst = some N) (cs : Array Value) (t : TypeId)
    (h : ∀ g, g = W.heap.size → ∀ w1, w1.heap[g]? = some (.cells cs t (0, 0)) → Below W.heap.size W w1 → wpList P ops Q rest (a.put o.dst (.pointer (some ⟨g, 0, none⟩))) w1)
    (hg : o.guard = none := by first | rfl | (simp [Region.wanted, yielded, *]; done))
    (hr : (execOp a.eval o).run P W = .ok (.value (.pointer (some ⟨W.heap.size, 0, none⟩))) (W.alloc (.cells cs t (0, 0))) := by first | (go_simp; done) | (go_simp; rfl)) : wpList P ops Q (o :: rest) a W := box_event hg hd hr h
theorem gc_ (f : FuncId) {W : World} {as1 : Array Operand} {ts : Array TypeId} (_ho : o.op = .call { callee := .value (.func f), args := as1, argTypes := ts }) (h : wpList P ops Q (o :: rest) a W) : wpList P ops Q (o :: rest) a W := h
theorem gd_ (N : Tmp) {W : World} (_hN : o.dst = some N) (h : wpList P ops Q (o :: rest) a W) : wpList P ops Q (o :: rest) a W := h
/-- A call. -/
theorem gl_ {w : World} (N : Option Tmp) (hd : o.dst = N) {f : FuncId} {fn : Func} {aa : Array Operand} {ts : Array TypeId} (hf : P.funcs[f]? = some fn) (args : Array Value)
    (h : Calls P f args w fun e w' => ∃ v, e = .returned v ∧ wpList P ops Q rest (a.put N v) w') (hg : o.guard = none := by rfl) (hname : (fn.name == "runtime.NumGoroutine") = false := by kernel_rfl) (hb : fn.body.isSome = true := by rfl)
    (hop : o.op = .call { callee := .value (.func f), args := aa, argTypes := ts } := by rfl) (hargs : aa.map a.eval = args := by ((try simp only [List.map_toArray, List.map_cons, List.map_nil]); first | done | rfl | (simp only [List.length_drop, List.length_take]; rfl))) : wpList P ops Q (o :: rest) a w :=
  goesL_ N hd hg hf hname hb args hop hargs h
end
end Go.Proofs.YtfafjpfigphchaaDoorW.PrintLast
namespace Go.Proofs.YtfafjpfigphchaaDoor.X
open Go.RowKit Go.Proofs.YtfafjpfigphchaaDoorW.PrintWords Go.Proofs.YtfafjpfigphchaaDoorW.PrintLast Go.Proofs.YtfafjpfigphchaaDoorW.PrintMore
attribute [local go_sem] max2_int min2_int max_two min_two max_three min_three max_four min_four
set_option linter.unusedVariables false
set_option linter.unusedSimpArgs false

section
def errW : Option Int → Value
  | none => .nilIface
  | some c => .iface 0 (.int .i64 c)
theorem errW_none : errW none = .nilIface := rfl
theorem errW_some (c : Int) : errW (some c) = .iface 0 (.int .i64 c) := rfl

theorem info3 : (Tryd.prog.info? 3).map (fun i => (i.zero, i.size, i.bytes)) = some (some (.int .i64 0), 1, 8) := by kernel_rfl
theorem info5 : (Tryd.prog.info? 5).map (fun i => (i.zero, i.size, i.bytes)) = some (some (.int .u8 0), 1, 1) := by kernel_rfl
theorem info9 : (Tryd.prog.info? 9).map (fun i => (i.zero, i.size, i.bytes)) = some (some (.string ⟨#[]⟩), 1, 16) := by kernel_rfl
theorem info23 : (Tryd.prog.info? 23).map (fun i => (i.zero, i.size, i.bytes)) = some (some (.agg #[(.int .i64 0), (.int .i64 0), (.int .i64 0), (.int .i64 0), (.int .i64 0)]), 5, 40) := by kernel_rfl
-- the values' own types
/-! #### struct type 23 -/
structure S23 where
  f0 : Int
  f1 : Int
  f2 : Int
  f3 : Int
  f4 : Int
def z23 : S23 := ⟨(0 : Int), (0 : Int), (0 : Int), (0 : Int), (0 : Int)⟩
def k23 : Kd S23 := Kd.iso (Kd.pair (Kd.int .i64) (Kd.pair (Kd.int .i64) (Kd.pair (Kd.int .i64) (Kd.pair (Kd.int .i64) (Kd.int .i64))))) (fun x : S23 => (x.f0, x.f1, x.f2, x.f3, x.f4))
theorem k23_open {w : World} {x : S23} {cs : List Value} (h : k23.K w x cs) : cs = [.int .i64 x.f0, .int .i64 x.f1, .int .i64 x.f2, .int .i64 x.f3, .int .i64 x.f4] := by
  obtain ⟨_, _, rfl, rfl, ⟨_, _, rfl, rfl, ⟨_, _, rfl, rfl, ⟨_, _, rfl, rfl, rfl⟩⟩⟩⟩ := h
  exact rfl
theorem k23_mkM (w : World) (base : Nat) (ok : Nat → Prop) (x : S23)  : k23.M w base ok x [.int .i64 x.f0, .int .i64 x.f1, .int .i64 x.f2, .int .i64 x.f3, .int .i64 x.f4] := ⟨[.int .i64 x.f0], [.int .i64 x.f1, .int .i64 x.f2, .int .i64 x.f3, .int .i64 x.f4], rfl, rfl, ⟨[.int .i64 x.f1], [.int .i64 x.f2, .int .i64 x.f3, .int .i64 x.f4], rfl, rfl, ⟨[.int .i64 x.f2], [.int .i64 x.f3, .int .i64 x.f4], rfl, rfl, ⟨[.int .i64 x.f3], [.int .i64 x.f4], rfl, rfl, rfl⟩⟩⟩⟩
def rd_T23 (xs : List S23) (i : Int) : S23 := xs.getD i.toNat z23
theorem at_T23 {w : World} {A : Option Addr} {n : Nat} {xs : List S23} (h : Kd.C k23 w A n xs) (i : Int) (h0 : 0 ≤ i) (h1 : i < n) : ∃ ad , A = some ad ∧ w.cell? (ad.add (i.toNat * 5)) = some (.int .i64 (rd_T23 xs i).f0) ∧ w.cell? ⟨(ad.add (i.toNat * 5)).block, (ad.add (i.toNat * 5)).off + 1, none⟩ = some (.int .i64 (rd_T23 xs i).f1) ∧ w.cell? ⟨(ad.add (i.toNat * 5)).block, (ad.add (i.toNat * 5)).off + 2, none⟩ = some (.int .i64 (rd_T23 xs i).f2) ∧ w.cell? ⟨(ad.add (i.toNat * 5)).block, (ad.add (i.toNat * 5)).off + 3, none⟩ = some (.int .i64 (rd_T23 xs i).f3) ∧ w.cell? ⟨(ad.add (i.toNat * 5)).block, (ad.add (i.toNat * 5)).off + 4, none⟩ = some (.int .i64 (rd_T23 xs i).f4) := by
  obtain ⟨ad, c, e, _, hK, hc0⟩ := Kd.C_get h z23 i h0 h1
  have hc : ∀ j u, c[j]? = some u → w.cell? (ad.add (i.toNat * 5 + j)) = some u := hc0
  obtain rfl := k23_open hK
  exact ⟨ad, e, hc 0 _ rfl, by rw [← add_field _ _ 1 (by omega)]; exact hc 1 _ rfl, by rw [← add_field _ _ 2 (by omega)]; exact hc 2 _ rfl, by rw [← add_field _ _ 3 (by omega)]; exact hc 3 _ rfl, by rw [← add_field _ _ 4 (by omega)]; exact hc 4 _ rfl⟩
end
section
def impl_partOk.f (a0 : Int) : Option (Bool) := if a0 ≥ 0 then (some (decide (a0 ≤ 255))) else (some false)
set_option maxHeartbeats 8000000 in
set_option maxRecDepth 100000 in
theorem impl_partOk.calls (a0 : Int) (r : Bool) (w : World) (h : impl_partOk.f a0 = some r) :
    Calls Tryd.prog 45 #[.int .i64 a0] w fun e w' => e = .returned (.bool r) ∧ Drawn0 w w' := by
  have H : (if a0 ≥ 0 then (some (decide (a0 ≤ 255))) else (some false)) = some r := h; clear h
  by_cases c2 : a0 ≥ 0
  · rw [if_pos c2] at H
    have c2b0 : decide (0 ≤ a0) = true := decide_eq_true c2; clear c2; obtain rfl := Option.some.inj H
    go_enter Tryd.func45, Tryd.ntmps45
    go_wp2
    go_ret
    exact ⟨by first | rfl | (simp; done) | (simp [*]; done), by repeat (first | exact Drawn0.refl _ | apply Drawn0.step)⟩
  · rw [if_neg c2] at H
    have c2b0 : decide (0 ≤ a0) = false := decide_eq_false c2; clear c2; obtain rfl := Option.some.inj H
    go_enter Tryd.func45, Tryd.ntmps45
    go_wp2
    go_ret
    exact ⟨by first | rfl | (simp; done) | (simp [*]; done), by repeat (first | exact Drawn0.refl _ | apply Drawn0.step)⟩
end
section
def impl_PixOk.f (a0_0 : Int) (a0_1 : Int) (a0_2 : Int) (a0_3 : Int) : Option (Bool) := (impl_partOk.f a0_0).bind fun t102 => (if t102 = true then ((impl_partOk.f a0_1).bind fun t103 => (if t103 = true then ((impl_partOk.f a0_2).bind fun t104 => (if t104 = true then ((impl_partOk.f a0_3).bind fun t105 => (some t105)) else (some false))) else (some false))) else (some false))
set_option maxHeartbeats 8000000 in
set_option maxRecDepth 100000 in
theorem impl_PixOk.calls (a0_0 : Int) (a0_1 : Int) (a0_2 : Int) (a0_3 : Int) (r : Bool) (w : World) (h : impl_PixOk.f a0_0 a0_1 a0_2 a0_3 = some r) :
  Calls Tryd.prog 47 #[.agg #[.int .i64 a0_0, .int .i64 a0_1, .int .i64 a0_2, .int .i64 a0_3]] w fun e w' => e = .returned (.bool r) ∧ Below w.heap.size w w' := by
 have hu74 := Tryd.underlying74; have HB := Aside0.mk (Below.refl w.heap.size w); have H : ((impl_partOk.f a0_0).bind fun a4 => (if a4 = true then ((impl_partOk.f a0_1).bind fun a5 => (if a5 = true then ((impl_partOk.f a0_2).bind fun a6 => (if a6 = true then ((impl_partOk.f a0_3).bind fun a7 => (some a7)) else (some false))) else (some false))) else (some false))) = some r := h; clear h; obtain ⟨a4, A2, H⟩ := bindA H; (try dsimp only at H)
 by_cases c3 : a4 = true
 ·
  subst c3
  rw [if_pos rfl] at H
  obtain ⟨a5, A4, H⟩ := bindA H; (try dsimp only at H)
  by_cases c5 : a5 = true
  ·
   subst c5
   rw [if_pos rfl] at H
   obtain ⟨a6, A6, H⟩ := bindA H; (try dsimp only at H)
   by_cases c7 : a6 = true
   ·
    subst c7
    rw [if_pos rfl] at H
    obtain ⟨a7, A8, H⟩ := bindA H; (try dsimp only at H); obtain rfl := Option.some.inj H
    go_enter Tryd.func47, Tryd.ntmps47
    go_wp2_with (first | ((with_reducible refine gd_ 1 rfl ?_); refine bx_ 1 rfl #[.int .i64 a0_0, .int .i64 a0_1, .int .i64 a0_2, .int .i64 a0_3] 74 ?_; intro a1 hg w9 hbox hb; have a0 := Aside0.mk (hbox); have a2 := Aside0.mk ((by rw [hg]; exact (below_size (upH HB.out)) : w.heap.size ≤ a1)); replace HB := Aside0.mk (below_step (upH HB.out) hb); have a3 := a2; clear hb hbox hg; obtain ⟨b0, b1, b2, b3⟩ := cc4_ a0.out; obtain ⟨b4, b5, b6⟩ := cf3_ a0.out; have b7 := blk_frozen a0.out 3) | ((with_reducible refine gc_ 45 rfl ?_); refine gl_ (some 5) rfl Tryd.func45 #[.int .i64 a0_0] ?_; (with_reducible refine (impl_partOk.calls a0_0 true _ A2.out).mono ?_); rintro e w' ⟨rfl, ⟨nd, rfl⟩⟩; refine ⟨_, rfl, ?_⟩) | (go_at_call 45; (with_reducible refine (impl_partOk.calls a0_1 true _ A4.out).mono ?_); rintro e w' ⟨rfl, ⟨nd, rfl⟩⟩) | (go_at_call 45; (with_reducible refine (impl_partOk.calls a0_2 true _ A6.out).mono ?_); rintro e w' ⟨rfl, ⟨nd, rfl⟩⟩) | (go_at_call 45; (with_reducible refine (impl_partOk.calls a0_3 a7 _ A8.out).mono ?_); rintro e w' ⟨rfl, ⟨nd, rfl⟩⟩))
    go_ret
    exact ⟨by first | rfl | (simp [*, errW_none, errW_some] <;> rfl), by repeat (with_reducible first | exact HB.out | apply below_alloc | apply pw_below_drewN | apply below_drew1 | refine below_set ?_ (Aside0.out ‹_›))⟩
   ·
    replace c7 := Bool.eq_false_iff.mpr c7
    subst c7
    rw [if_neg (show ¬ (false = true) by decide)] at H
    obtain rfl := Option.some.inj H
    go_enter Tryd.func47, Tryd.ntmps47
    go_wp2_with (first | ((with_reducible refine gd_ 1 rfl ?_); refine bx_ 1 rfl #[.int .i64 a0_0, .int .i64 a0_1, .int .i64 a0_2, .int .i64 a0_3] 74 ?_; intro a1 hg w11 hbox hb; have a0 := Aside0.mk (hbox); have a2 := Aside0.mk ((by rw [hg]; exact (below_size (upH HB.out)) : w.heap.size ≤ a1)); replace HB := Aside0.mk (below_step (upH HB.out) hb); have a3 := a2; clear hb hbox hg; obtain ⟨b8, b9, c0, c1⟩ := cc4_ a0.out; obtain ⟨c2, c4, c6⟩ := cf3_ a0.out; have c8 := blk_frozen a0.out 3) | ((with_reducible refine gc_ 45 rfl ?_); refine gl_ (some 5) rfl Tryd.func45 #[.int .i64 a0_0] ?_; (with_reducible refine (impl_partOk.calls a0_0 true _ A2.out).mono ?_); rintro e w' ⟨rfl, ⟨nd, rfl⟩⟩; refine ⟨_, rfl, ?_⟩) | (go_at_call 45; (with_reducible refine (impl_partOk.calls a0_1 true _ A4.out).mono ?_); rintro e w' ⟨rfl, ⟨nd, rfl⟩⟩) | (go_at_call 45; (with_reducible refine (impl_partOk.calls a0_2 false _ A6.out).mono ?_); rintro e w' ⟨rfl, ⟨nd, rfl⟩⟩))
    go_ret
    exact ⟨by first | rfl | (simp [*, errW_none, errW_some] <;> rfl), by repeat (with_reducible first | exact HB.out | apply below_alloc | apply pw_below_drewN | apply below_drew1 | refine below_set ?_ (Aside0.out ‹_›))⟩
  ·
   replace c5 := Bool.eq_false_iff.mpr c5
   subst c5
   rw [if_neg (show ¬ (false = true) by decide)] at H
   obtain rfl := Option.some.inj H
   go_enter Tryd.func47, Tryd.ntmps47
   go_wp2_with (first | ((with_reducible refine gd_ 1 rfl ?_); refine bx_ 1 rfl #[.int .i64 a0_0, .int .i64 a0_1, .int .i64 a0_2, .int .i64 a0_3] 74 ?_; intro a1 hg w13 hbox hb; have a0 := Aside0.mk (hbox); have a2 := Aside0.mk ((by rw [hg]; exact (below_size (upH HB.out)) : w.heap.size ≤ a1)); replace HB := Aside0.mk (below_step (upH HB.out) hb); have a3 := a2; clear hb hbox hg; obtain ⟨c9, d0, d1, d2⟩ := cc4_ a0.out; obtain ⟨d3, d4, d5⟩ := cf3_ a0.out; have d6 := blk_frozen a0.out 3) | ((with_reducible refine gc_ 45 rfl ?_); refine gl_ (some 5) rfl Tryd.func45 #[.int .i64 a0_0] ?_; (with_reducible refine (impl_partOk.calls a0_0 true _ A2.out).mono ?_); rintro e w' ⟨rfl, ⟨nd, rfl⟩⟩; refine ⟨_, rfl, ?_⟩) | (go_at_call 45; (with_reducible refine (impl_partOk.calls a0_1 false _ A4.out).mono ?_); rintro e w' ⟨rfl, ⟨nd, rfl⟩⟩))
   go_ret
   exact ⟨by first | rfl | (simp [*, errW_none, errW_some] <;> rfl), by repeat (with_reducible first | exact HB.out | apply below_alloc | apply pw_below_drewN | apply below_drew1 | refine below_set ?_ (Aside0.out ‹_›))⟩
 ·
  replace c3 := Bool.eq_false_iff.mpr c3
  subst c3
  rw [if_neg (show ¬ (false = true) by decide)] at H
  obtain rfl := Option.some.inj H
  go_enter Tryd.func47, Tryd.ntmps47
  go_wp2_with (first | ((with_reducible refine gd_ 1 rfl ?_); refine bx_ 1 rfl #[.int .i64 a0_0, .int .i64 a0_1, .int .i64 a0_2, .int .i64 a0_3] 74 ?_; intro a1 hg w15 hbox hb; have a0 := Aside0.mk (hbox); have a2 := Aside0.mk ((by rw [hg]; exact (below_size (upH HB.out)) : w.heap.size ≤ a1)); replace HB := Aside0.mk (below_step (upH HB.out) hb); have a3 := a2; clear hb hbox hg; obtain ⟨d7, d8, d9, e0⟩ := cc4_ a0.out; obtain ⟨e1, e2, e3⟩ := cf3_ a0.out; have e4 := blk_frozen a0.out 3) | ((with_reducible refine gc_ 45 rfl ?_); refine gl_ (some 5) rfl Tryd.func45 #[.int .i64 a0_0] ?_; (with_reducible refine (impl_partOk.calls a0_0 false _ A2.out).mono ?_); rintro e w' ⟨rfl, ⟨nd, rfl⟩⟩; refine ⟨_, rfl, ?_⟩))
  go_ret
  exact ⟨by first | rfl | (simp [*, errW_none, errW_some] <;> rfl), by repeat (with_reducible first | exact HB.out | apply below_alloc | apply pw_below_drewN | apply below_drew1 | refine below_set ?_ (Aside0.out ‹_›))⟩
end
section
def laws_eaOk.f  : Option (Bool) := (impl_PixOk.f 1 2 3 4).bind fun t101 => (some t101)
set_option maxHeartbeats 8000000 in
set_option maxRecDepth 100000 in
theorem laws_eaOk.calls  (r : Bool) (w : World) (h : laws_eaOk.f  = some r) :
    Calls Tryd.prog 16 #[] w fun e w' => e = .returned (.bool r) ∧ Below w.heap.size w w' := by
  have hu74 := Tryd.underlying74; have HB := Aside0.mk (Below.refl w.heap.size w); have H : ((impl_PixOk.f 1 2 3 4).bind fun t101 => (some t101)) = some r := h; clear h; obtain ⟨t101, A1, H⟩ := bindA H; (try dsimp only at H); obtain rfl := Option.some.inj H
  go_enter Tryd.func16, Tryd.ntmps16
  go_wp2_with (first | ((with_reducible refine gc_ 47 rfl ?_); refine gl_ (some 2) rfl Tryd.func47 #[.agg #[.int .i64 1, .int .i64 2, .int .i64 3, .int .i64 4]] ?_; (with_reducible refine (impl_PixOk.calls 1 2 3 4 t101 _ A1.out).mono ?_); rintro e w2 ⟨rfl, hb⟩; refine ⟨_, rfl, ?_⟩; replace HB := Aside0.mk (below_step (upH HB.out) hb); (try clear hb)))
  go_ret
  exact ⟨by first | rfl | (simp [*, errW_none, errW_some] <;> rfl), upH HB.out⟩
end
section
def spec_l1In.f (a0 : Int) (a1 : Int) (a2 : Int) : Option (Bool) := if a0 ≥ a1 then (some (decide (a0 ≤ a2))) else (some false)
set_option maxHeartbeats 8000000 in
set_option maxRecDepth 100000 in
theorem spec_l1In.calls (a0 : Int) (a1 : Int) (a2 : Int) (r : Bool) (w : World) (h : spec_l1In.f a0 a1 a2 = some r) :
    Calls Tryd.prog 46 #[.int .i64 a0, .int .i64 a1, .int .i64 a2] w fun e w' => e = .returned (.bool r) ∧ Drawn0 w w' := by
  have H : (if a0 ≥ a1 then (some (decide (a0 ≤ a2))) else (some false)) = some r := h; clear h
  by_cases c4 : a0 ≥ a1
  · rw [if_pos c4] at H
    have c4b0 : decide (a1 ≤ a0) = true := decide_eq_true c4; clear c4; obtain rfl := Option.some.inj H
    go_enter Tryd.func46, Tryd.ntmps46
    go_wp2
    go_ret
    exact ⟨by first | rfl | (simp; done) | (simp [*]; done), by repeat (first | exact Drawn0.refl _ | apply Drawn0.step)⟩
  · rw [if_neg c4] at H
    have c4b0 : decide (a1 ≤ a0) = false := decide_eq_false c4; clear c4; obtain rfl := Option.some.inj H
    go_enter Tryd.func46, Tryd.ntmps46
    go_wp2
    go_ret
    exact ⟨by first | rfl | (simp; done) | (simp [*]; done), by repeat (first | exact Drawn0.refl _ | apply Drawn0.step)⟩
end
section
open Go.Proofs.YtfafjpfigphchaaDoorW.PrintWords.Aside0 renaming mk → yaa
open Go.Proofs.YtfafjpfigphchaaDoorW.PrintWords renaming pw_below_drewN → yab, below_alloc → yac, below_drew1 → yad, below_size → yae, below_step → yaf, blk_frozen → yag, below_set → yah

def spec_OpOk.f (a0_0 : Int) (a0_1 : Int) (a0_2 : Int) (a0_3 : Int) (a0_4 : Int) : Option (Bool) := if a0_0 = 1 then ((spec_l1In.f a0_1 0 5).bind fun t102 => (if t102 = true then ((spec_l1In.f a0_2 0 5).bind fun t103 => (if t103 = true then ((spec_l1In.f a0_3 1 6).bind fun t104 => (if t104 = true then ((spec_l1In.f a0_4 1 6).bind fun t105 => (some t105)) else (some false))) else (some false))) else (some false))) else (if a0_0 = 7 then ((spec_l1In.f a0_1 1 6).bind fun t106 => (if t106 = true then ((spec_l1In.f a0_2 1 6).bind fun t107 => (if t107 = true then (if a0_3 = 0 then (some (a0_4 == 0)) else (some false)) else (some false))) else (some false))) else (if a0_0 = 8 then ((spec_l1In.f a0_1 0 255).bind fun t108 => (if t108 = true then ((spec_l1In.f a0_2 0 255).bind fun t109 => (if t109 = true then ((spec_l1In.f a0_3 0 255).bind fun t110 => (if t110 = true then (some (a0_4 == 0)) else (some false))) else (some false))) else (some false))) else ((spec_l1In.f a0_0 2 6).bind fun t111 => (if t111 = true then (if a0_1 = 0 then (if a0_2 = 0 then (if a0_3 = 0 then (some (a0_4 == 0)) else (some false)) else (some false)) else (some false)) else (some false)))))
set_option maxHeartbeats 8000000 in
set_option maxRecDepth 100000 in
theorem spec_OpOk.calls (a0_0 : Int) (a0_1 : Int) (a0_2 : Int) (a0_3 : Int) (a0_4 : Int) (r : Bool) (w : World) (h : spec_OpOk.f a0_0 a0_1 a0_2 a0_3 a0_4 = some r) :
  Calls Tryd.prog 15 #[.agg #[.int .i64 a0_0, .int .i64 a0_1, .int .i64 a0_2, .int .i64 a0_3, .int .i64 a0_4]] w fun e w' => e = .returned (.bool r) ∧ Below w.heap.size w w' := by
 have hu23 := Tryd.underlying23; have HB := yaa (Below.refl w.heap.size w); have H : (if a0_0 = 1 then ((spec_l1In.f a0_1 0 5).bind fun a6 => (if a6 = true then ((spec_l1In.f a0_2 0 5).bind fun a7 => (if a7 = true then ((spec_l1In.f a0_3 1 6).bind fun a8 => (if a8 = true then ((spec_l1In.f a0_4 1 6).bind fun a9 => (some a9)) else (some false))) else (some false))) else (some false))) else (if a0_0 = 7 then ((spec_l1In.f a0_1 1 6).bind fun b0 => (if b0 = true then ((spec_l1In.f a0_2 1 6).bind fun b1 => (if b1 = true then (if a0_3 = 0 then (some (a0_4 == 0)) else (some false)) else (some false))) else (some false))) else (if a0_0 = 8 then ((spec_l1In.f a0_1 0 255).bind fun b2 => (if b2 = true then ((spec_l1In.f a0_2 0 255).bind fun b3 => (if b3 = true then ((spec_l1In.f a0_3 0 255).bind fun b4 => (if b4 = true then (some (a0_4 == 0)) else (some false))) else (some false))) else (some false))) else ((spec_l1In.f a0_0 2 6).bind fun b5 => (if b5 = true then (if a0_1 = 0 then (if a0_2 = 0 then (if a0_3 = 0 then (some (a0_4 == 0)) else (some false)) else (some false)) else (some false)) else (some false)))))) = some r := h; clear h
 by_cases c2 : a0_0 = 1
 ·
  rw [if_pos c2] at H
  have u2 := beq_iff_eq.mpr c2; have u3 := bne_eq_false_iff_eq.mpr c2; clear c2; obtain ⟨a6, A3, H⟩ := bindA H; (try dsimp only at H)
  by_cases c4 : a6 = true
  ·
   subst c4
   rw [if_pos rfl] at H
   obtain ⟨a7, A5, H⟩ := bindA H; (try dsimp only at H)
   by_cases c6 : a7 = true
   ·
    subst c6
    rw [if_pos rfl] at H
    obtain ⟨a8, A7, H⟩ := bindA H; (try dsimp only at H)
    by_cases c8 : a8 = true
    ·
     subst c8
     rw [if_pos rfl] at H
     obtain ⟨a9, A9, H⟩ := bindA H; (try dsimp only at H); obtain rfl := Option.some.inj H
     go_enter Tryd.func15, Tryd.ntmps15
     go_wp2_with (first | ((with_reducible refine gd_ 1 rfl ?_); refine bx_ 1 rfl #[.int .i64 a0_0, .int .i64 a0_1, .int .i64 a0_2, .int .i64 a0_3, .int .i64 a0_4] 23 ?_; intro a1 hg w10 hbox hb; have a0 := yaa (hbox); have a2 := yaa ((by rw [hg]; exact (yae (upH HB.out)) : w.heap.size ≤ a1)); replace HB := yaa (yaf (upH HB.out) hb); have a3 := a2; clear hb hbox hg; obtain ⟨d2, d3, d4, d5, d6⟩ := cc5_ a0.out; obtain ⟨d7, d8, d9, e0⟩ := cf4_ a0.out; have e1 := yag a0.out 4) | ((with_reducible refine gc_ 46 rfl ?_); refine gl_ (some 9) rfl Tryd.func46 #[.int .i64 a0_1, .int .i64 0, .int .i64 5] ?_; (with_reducible refine (spec_l1In.calls a0_1 0 5 true _ A3.out).mono ?_); rintro e w' ⟨rfl, ⟨nd, rfl⟩⟩; refine ⟨_, rfl, ?_⟩) | (go_at_call 46; (with_reducible refine (spec_l1In.calls a0_2 0 5 true _ A5.out).mono ?_); rintro e w' ⟨rfl, ⟨nd, rfl⟩⟩) | (go_at_call 46; (with_reducible refine (spec_l1In.calls a0_3 1 6 true _ A7.out).mono ?_); rintro e w' ⟨rfl, ⟨nd, rfl⟩⟩) | (go_at_call 46; (with_reducible refine (spec_l1In.calls a0_4 1 6 a9 _ A9.out).mono ?_); rintro e w' ⟨rfl, ⟨nd, rfl⟩⟩))
     go_ret
     exact ⟨by first | rfl | (simp [*, errW_none, errW_some] <;> rfl), by repeat (with_reducible first | exact HB.out | apply yac | apply yab | apply yad | refine yah ?_ (Aside0.out ‹_›))⟩
    ·
     replace c8 := Bool.eq_false_iff.mpr c8
     subst c8
     rw [if_neg (show ¬ (false = true) by decide)] at H
     obtain rfl := Option.some.inj H
     go_enter Tryd.func15, Tryd.ntmps15
     go_wp2_with (first | ((with_reducible refine gd_ 1 rfl ?_); refine bx_ 1 rfl #[.int .i64 a0_0, .int .i64 a0_1, .int .i64 a0_2, .int .i64 a0_3, .int .i64 a0_4] 23 ?_; intro a1 hg w12 hbox hb; have a0 := yaa (hbox); have a2 := yaa ((by rw [hg]; exact (yae (upH HB.out)) : w.heap.size ≤ a1)); replace HB := yaa (yaf (upH HB.out) hb); have a3 := a2; clear hb hbox hg; obtain ⟨e2, e3, e4, e5, e6⟩ := cc5_ a0.out; obtain ⟨e7, e8, e9, f0⟩ := cf4_ a0.out; have f1 := yag a0.out 4) | ((with_reducible refine gc_ 46 rfl ?_); refine gl_ (some 9) rfl Tryd.func46 #[.int .i64 a0_1, .int .i64 0, .int .i64 5] ?_; (with_reducible refine (spec_l1In.calls a0_1 0 5 true _ A3.out).mono ?_); rintro e w' ⟨rfl, ⟨nd, rfl⟩⟩; refine ⟨_, rfl, ?_⟩) | (go_at_call 46; (with_reducible refine (spec_l1In.calls a0_2 0 5 true _ A5.out).mono ?_); rintro e w' ⟨rfl, ⟨nd, rfl⟩⟩) | (go_at_call 46; (with_reducible refine (spec_l1In.calls a0_3 1 6 false _ A7.out).mono ?_); rintro e w' ⟨rfl, ⟨nd, rfl⟩⟩))
     go_ret
     exact ⟨by first | rfl | (simp [*, errW_none, errW_some] <;> rfl), by repeat (with_reducible first | exact HB.out | apply yac | apply yab | apply yad | refine yah ?_ (Aside0.out ‹_›))⟩
   ·
    replace c6 := Bool.eq_false_iff.mpr c6
    subst c6
    rw [if_neg (show ¬ (false = true) by decide)] at H
    obtain rfl := Option.some.inj H
    go_enter Tryd.func15, Tryd.ntmps15
    go_wp2_with (first | ((with_reducible refine gd_ 1 rfl ?_); refine bx_ 1 rfl #[.int .i64 a0_0, .int .i64 a0_1, .int .i64 a0_2, .int .i64 a0_3, .int .i64 a0_4] 23 ?_; intro a1 hg w14 hbox hb; have a0 := yaa (hbox); have a2 := yaa ((by rw [hg]; exact (yae (upH HB.out)) : w.heap.size ≤ a1)); replace HB := yaa (yaf (upH HB.out) hb); have a3 := a2; clear hb hbox hg; obtain ⟨f2, f3, f4, f5, f6⟩ := cc5_ a0.out; obtain ⟨f7, f8, f9, g0⟩ := cf4_ a0.out; have g1 := yag a0.out 4) | ((with_reducible refine gc_ 46 rfl ?_); refine gl_ (some 9) rfl Tryd.func46 #[.int .i64 a0_1, .int .i64 0, .int .i64 5] ?_; (with_reducible refine (spec_l1In.calls a0_1 0 5 true _ A3.out).mono ?_); rintro e w' ⟨rfl, ⟨nd, rfl⟩⟩; refine ⟨_, rfl, ?_⟩) | (go_at_call 46; (with_reducible refine (spec_l1In.calls a0_2 0 5 false _ A5.out).mono ?_); rintro e w' ⟨rfl, ⟨nd, rfl⟩⟩))
    go_ret
    exact ⟨by first | rfl | (simp [*, errW_none, errW_some] <;> rfl), by repeat (with_reducible first | exact HB.out | apply yac | apply yab | apply yad | refine yah ?_ (Aside0.out ‹_›))⟩
  ·
   replace c4 := Bool.eq_false_iff.mpr c4
   subst c4
   rw [if_neg (show ¬ (false = true) by decide)] at H
   obtain rfl := Option.some.inj H
   go_enter Tryd.func15, Tryd.ntmps15
   go_wp2_with (first | ((with_reducible refine gd_ 1 rfl ?_); refine bx_ 1 rfl #[.int .i64 a0_0, .int .i64 a0_1, .int .i64 a0_2, .int .i64 a0_3, .int .i64 a0_4] 23 ?_; intro a1 hg w16 hbox hb; have a0 := yaa (hbox); have a2 := yaa ((by rw [hg]; exact (yae (upH HB.out)) : w.heap.size ≤ a1)); replace HB := yaa (yaf (upH HB.out) hb); have a3 := a2; clear hb hbox hg; obtain ⟨g2, g3, g4, g5, g6⟩ := cc5_ a0.out; obtain ⟨g7, g8, g9, h0⟩ := cf4_ a0.out; have h1 := yag a0.out 4) | ((with_reducible refine gc_ 46 rfl ?_); refine gl_ (some 9) rfl Tryd.func46 #[.int .i64 a0_1, .int .i64 0, .int .i64 5] ?_; (with_reducible refine (spec_l1In.calls a0_1 0 5 false _ A3.out).mono ?_); rintro e w' ⟨rfl, ⟨nd, rfl⟩⟩; refine ⟨_, rfl, ?_⟩))
   go_ret
   exact ⟨by first | rfl | (simp [*, errW_none, errW_some] <;> rfl), by repeat (with_reducible first | exact HB.out | apply yac | apply yab | apply yad | refine yah ?_ (Aside0.out ‹_›))⟩
 ·
  rw [if_neg c2] at H
  have u2 := beq_eq_false_iff_ne.mpr c2; have u3 := bne_iff_ne.mpr c2
  by_cases c18 : a0_0 = 7
  ·
   rw [if_pos c18] at H
   have b6 := beq_iff_eq.mpr c18; have b7 := bne_eq_false_iff_eq.mpr c18; clear c18; obtain ⟨b0, A19, H⟩ := bindA H; (try dsimp only at H)
   by_cases c20 : b0 = true
   ·
    subst c20
    rw [if_pos rfl] at H
    obtain ⟨b1, A21, H⟩ := bindA H; (try dsimp only at H)
    by_cases c22 : b1 = true
    ·
     subst c22
     rw [if_pos rfl] at H
     by_cases c23 : a0_3 = 0
     ·
      rw [if_pos c23] at H
      have b8 := beq_iff_eq.mpr c23; have b9 := bne_eq_false_iff_eq.mpr c23; clear c23; obtain rfl := Option.some.inj H
      go_enter Tryd.func15, Tryd.ntmps15
      go_wp2_with (first | ((with_reducible refine gd_ 1 rfl ?_); refine bx_ 1 rfl #[.int .i64 a0_0, .int .i64 a0_1, .int .i64 a0_2, .int .i64 a0_3, .int .i64 a0_4] 23 ?_; intro a1 hg w24 hbox hb; have a0 := yaa (hbox); have a2 := yaa ((by rw [hg]; exact (yae (upH HB.out)) : w.heap.size ≤ a1)); replace HB := yaa (yaf (upH HB.out) hb); have a3 := a2; clear hb hbox hg; obtain ⟨h2, h3, h4, h5, h6⟩ := cc5_ a0.out; obtain ⟨h7, h8, h9, i0⟩ := cf4_ a0.out; have i1 := yag a0.out 4) | ((with_reducible refine gc_ 46 rfl ?_); refine gl_ (some 29) rfl Tryd.func46 #[.int .i64 a0_1, .int .i64 1, .int .i64 6] ?_; (with_reducible refine (spec_l1In.calls a0_1 1 6 true _ A19.out).mono ?_); rintro e w' ⟨rfl, ⟨nd, rfl⟩⟩; refine ⟨_, rfl, ?_⟩) | (go_at_call 46; (with_reducible refine (spec_l1In.calls a0_2 1 6 true _ A21.out).mono ?_); rintro e w' ⟨rfl, ⟨nd, rfl⟩⟩))
      go_ret
      exact ⟨by first | rfl | (simp [*, errW_none, errW_some] <;> rfl), by repeat (with_reducible first | exact HB.out | apply yac | apply yab | apply yad | refine yah ?_ (Aside0.out ‹_›))⟩
     ·
      rw [if_neg c23] at H
      have b8 := beq_eq_false_iff_ne.mpr c23; have b9 := bne_iff_ne.mpr c23; obtain rfl := Option.some.inj H
      go_enter Tryd.func15, Tryd.ntmps15
      go_wp2_with (first | ((with_reducible refine gd_ 1 rfl ?_); refine bx_ 1 rfl #[.int .i64 a0_0, .int .i64 a0_1, .int .i64 a0_2, .int .i64 a0_3, .int .i64 a0_4] 23 ?_; intro a1 hg w26 hbox hb; have a0 := yaa (hbox); have a2 := yaa ((by rw [hg]; exact (yae (upH HB.out)) : w.heap.size ≤ a1)); replace HB := yaa (yaf (upH HB.out) hb); have a3 := a2; clear hb hbox hg; obtain ⟨i2, i3, i4, i5, i6⟩ := cc5_ a0.out; obtain ⟨i7, i8, i9, j0⟩ := cf4_ a0.out; have j1 := yag a0.out 4) | ((with_reducible refine gc_ 46 rfl ?_); refine gl_ (some 29) rfl Tryd.func46 #[.int .i64 a0_1, .int .i64 1, .int .i64 6] ?_; (with_reducible refine (spec_l1In.calls a0_1 1 6 true _ A19.out).mono ?_); rintro e w' ⟨rfl, ⟨nd, rfl⟩⟩; refine ⟨_, rfl, ?_⟩) | (go_at_call 46; (with_reducible refine (spec_l1In.calls a0_2 1 6 true _ A21.out).mono ?_); rintro e w' ⟨rfl, ⟨nd, rfl⟩⟩))
      go_ret
      exact ⟨by first | rfl | (simp [*, errW_none, errW_some] <;> rfl), by repeat (with_reducible first | exact HB.out | apply yac | apply yab | apply yad | refine yah ?_ (Aside0.out ‹_›))⟩
    ·
     replace c22 := Bool.eq_false_iff.mpr c22
     subst c22
     rw [if_neg (show ¬ (false = true) by decide)] at H
     obtain rfl := Option.some.inj H
     go_enter Tryd.func15, Tryd.ntmps15
     go_wp2_with (first | ((with_reducible refine gd_ 1 rfl ?_); refine bx_ 1 rfl #[.int .i64 a0_0, .int .i64 a0_1, .int .i64 a0_2, .int .i64 a0_3, .int .i64 a0_4] 23 ?_; intro a1 hg w28 hbox hb; have a0 := yaa (hbox); have a2 := yaa ((by rw [hg]; exact (yae (upH HB.out)) : w.heap.size ≤ a1)); replace HB := yaa (yaf (upH HB.out) hb); have a3 := a2; clear hb hbox hg; obtain ⟨j2, j3, j4, j5, j6⟩ := cc5_ a0.out; obtain ⟨j7, j8, j9, k0⟩ := cf4_ a0.out; have k1 := yag a0.out 4) | ((with_reducible refine gc_ 46 rfl ?_); refine gl_ (some 29) rfl Tryd.func46 #[.int .i64 a0_1, .int .i64 1, .int .i64 6] ?_; (with_reducible refine (spec_l1In.calls a0_1 1 6 true _ A19.out).mono ?_); rintro e w' ⟨rfl, ⟨nd, rfl⟩⟩; refine ⟨_, rfl, ?_⟩) | (go_at_call 46; (with_reducible refine (spec_l1In.calls a0_2 1 6 false _ A21.out).mono ?_); rintro e w' ⟨rfl, ⟨nd, rfl⟩⟩))
     go_ret
     exact ⟨by first | rfl | (simp [*, errW_none, errW_some] <;> rfl), by repeat (with_reducible first | exact HB.out | apply yac | apply yab | apply yad | refine yah ?_ (Aside0.out ‹_›))⟩
   ·
    replace c20 := Bool.eq_false_iff.mpr c20
    subst c20
    rw [if_neg (show ¬ (false = true) by decide)] at H
    obtain rfl := Option.some.inj H
    go_enter Tryd.func15, Tryd.ntmps15
    go_wp2_with (first | ((with_reducible refine gd_ 1 rfl ?_); refine bx_ 1 rfl #[.int .i64 a0_0, .int .i64 a0_1, .int .i64 a0_2, .int .i64 a0_3, .int .i64 a0_4] 23 ?_; intro a1 hg w30 hbox hb; have a0 := yaa (hbox); have a2 := yaa ((by rw [hg]; exact (yae (upH HB.out)) : w.heap.size ≤ a1)); replace HB := yaa (yaf (upH HB.out) hb); have a3 := a2; clear hb hbox hg; obtain ⟨k2, k3, k4, k5, k6⟩ := cc5_ a0.out; obtain ⟨k7, k8, k9, l0⟩ := cf4_ a0.out; have l1 := yag a0.out 4) | ((with_reducible refine gc_ 46 rfl ?_); refine gl_ (some 29) rfl Tryd.func46 #[.int .i64 a0_1, .int .i64 1, .int .i64 6] ?_; (with_reducible refine (spec_l1In.calls a0_1 1 6 false _ A19.out).mono ?_); rintro e w' ⟨rfl, ⟨nd, rfl⟩⟩; refine ⟨_, rfl, ?_⟩))
    go_ret
    exact ⟨by first | rfl | (simp [*, errW_none, errW_some] <;> rfl), by repeat (with_reducible first | exact HB.out | apply yac | apply yab | apply yad | refine yah ?_ (Aside0.out ‹_›))⟩
  ·
   rw [if_neg c18] at H
   have b6 := beq_eq_false_iff_ne.mpr c18; have b7 := bne_iff_ne.mpr c18
   by_cases c32 : a0_0 = 8
   ·
    rw [if_pos c32] at H
    have c0 := beq_iff_eq.mpr c32; have c1 := bne_eq_false_iff_eq.mpr c32; clear c32; obtain ⟨b2, A33, H⟩ := bindA H; (try dsimp only at H)
    by_cases c34 : b2 = true
    ·
     subst c34
     rw [if_pos rfl] at H
     obtain ⟨b3, A35, H⟩ := bindA H; (try dsimp only at H)
     by_cases c36 : b3 = true
     ·
      subst c36
      rw [if_pos rfl] at H
      obtain ⟨b4, A37, H⟩ := bindA H; (try dsimp only at H)
      by_cases c38 : b4 = true
      ·
       subst c38
       rw [if_pos rfl] at H
       obtain rfl := Option.some.inj H
       go_enter Tryd.func15, Tryd.ntmps15
       go_wp2_with (first | ((with_reducible refine gd_ 1 rfl ?_); refine bx_ 1 rfl #[.int .i64 a0_0, .int .i64 a0_1, .int .i64 a0_2, .int .i64 a0_3, .int .i64 a0_4] 23 ?_; intro a1 hg w39 hbox hb; have a0 := yaa (hbox); have a2 := yaa ((by rw [hg]; exact (yae (upH HB.out)) : w.heap.size ≤ a1)); replace HB := yaa (yaf (upH HB.out) hb); have a3 := a2; clear hb hbox hg; obtain ⟨l2, l3, l4, l5, l6⟩ := cc5_ a0.out; obtain ⟨l7, l8, l9, m0⟩ := cf4_ a0.out; have m1 := yag a0.out 4) | ((with_reducible refine gc_ 46 rfl ?_); refine gl_ (some 49) rfl Tryd.func46 #[.int .i64 a0_1, .int .i64 0, .int .i64 255] ?_; (with_reducible refine (spec_l1In.calls a0_1 0 255 true _ A33.out).mono ?_); rintro e w' ⟨rfl, ⟨nd, rfl⟩⟩; refine ⟨_, rfl, ?_⟩) | (go_at_call 46; (with_reducible refine (spec_l1In.calls a0_2 0 255 true _ A35.out).mono ?_); rintro e w' ⟨rfl, ⟨nd, rfl⟩⟩) | (go_at_call 46; (with_reducible refine (spec_l1In.calls a0_3 0 255 true _ A37.out).mono ?_); rintro e w' ⟨rfl, ⟨nd, rfl⟩⟩))
       go_ret
       exact ⟨by first | rfl | (simp [*, errW_none, errW_some] <;> rfl), by repeat (with_reducible first | exact HB.out | apply yac | apply yab | apply yad | refine yah ?_ (Aside0.out ‹_›))⟩
      ·
       replace c38 := Bool.eq_false_iff.mpr c38
       subst c38
       rw [if_neg (show ¬ (false = true) by decide)] at H
       obtain rfl := Option.some.inj H
       go_enter Tryd.func15, Tryd.ntmps15
       go_wp2_with (first | ((with_reducible refine gd_ 1 rfl ?_); refine bx_ 1 rfl #[.int .i64 a0_0, .int .i64 a0_1, .int .i64 a0_2, .int .i64 a0_3, .int .i64 a0_4] 23 ?_; intro a1 hg w41 hbox hb; have a0 := yaa (hbox); have a2 := yaa ((by rw [hg]; exact (yae (upH HB.out)) : w.heap.size ≤ a1)); replace HB := yaa (yaf (upH HB.out) hb); have a3 := a2; clear hb hbox hg; obtain ⟨m2, m3, m4, m5, m6⟩ := cc5_ a0.out; obtain ⟨m7, m8, m9, n0⟩ := cf4_ a0.out; have n1 := yag a0.out 4) | ((with_reducible refine gc_ 46 rfl ?_); refine gl_ (some 49) rfl Tryd.func46 #[.int .i64 a0_1, .int .i64 0, .int .i64 255] ?_; (with_reducible refine (spec_l1In.calls a0_1 0 255 true _ A33.out).mono ?_); rintro e w' ⟨rfl, ⟨nd, rfl⟩⟩; refine ⟨_, rfl, ?_⟩) | (go_at_call 46; (with_reducible refine (spec_l1In.calls a0_2 0 255 true _ A35.out).mono ?_); rintro e w' ⟨rfl, ⟨nd, rfl⟩⟩) | (go_at_call 46; (with_reducible refine (spec_l1In.calls a0_3 0 255 false _ A37.out).mono ?_); rintro e w' ⟨rfl, ⟨nd, rfl⟩⟩))
       go_ret
       exact ⟨by first | rfl | (simp [*, errW_none, errW_some] <;> rfl), by repeat (with_reducible first | exact HB.out | apply yac | apply yab | apply yad | refine yah ?_ (Aside0.out ‹_›))⟩
     ·
      replace c36 := Bool.eq_false_iff.mpr c36
      subst c36
      rw [if_neg (show ¬ (false = true) by decide)] at H
      obtain rfl := Option.some.inj H
      go_enter Tryd.func15, Tryd.ntmps15
      go_wp2_with (first | ((with_reducible refine gd_ 1 rfl ?_); refine bx_ 1 rfl #[.int .i64 a0_0, .int .i64 a0_1, .int .i64 a0_2, .int .i64 a0_3, .int .i64 a0_4] 23 ?_; intro a1 hg w43 hbox hb; have a0 := yaa (hbox); have a2 := yaa ((by rw [hg]; exact (yae (upH HB.out)) : w.heap.size ≤ a1)); replace HB := yaa (yaf (upH HB.out) hb); have a3 := a2; clear hb hbox hg; obtain ⟨n2, n3, n4, n5, n6⟩ := cc5_ a0.out; obtain ⟨n7, n8, n9, o0⟩ := cf4_ a0.out; have o1 := yag a0.out 4) | ((with_reducible refine gc_ 46 rfl ?_); refine gl_ (some 49) rfl Tryd.func46 #[.int .i64 a0_1, .int .i64 0, .int .i64 255] ?_; (with_reducible refine (spec_l1In.calls a0_1 0 255 true _ A33.out).mono ?_); rintro e w' ⟨rfl, ⟨nd, rfl⟩⟩; refine ⟨_, rfl, ?_⟩) | (go_at_call 46; (with_reducible refine (spec_l1In.calls a0_2 0 255 false _ A35.out).mono ?_); rintro e w' ⟨rfl, ⟨nd, rfl⟩⟩))
      go_ret
      exact ⟨by first | rfl | (simp [*, errW_none, errW_some] <;> rfl), by repeat (with_reducible first | exact HB.out | apply yac | apply yab | apply yad | refine yah ?_ (Aside0.out ‹_›))⟩
    ·
     replace c34 := Bool.eq_false_iff.mpr c34
     subst c34
     rw [if_neg (show ¬ (false = true) by decide)] at H
     obtain rfl := Option.some.inj H
     go_enter Tryd.func15, Tryd.ntmps15
     go_wp2_with (first | ((with_reducible refine gd_ 1 rfl ?_); refine bx_ 1 rfl #[.int .i64 a0_0, .int .i64 a0_1, .int .i64 a0_2, .int .i64 a0_3, .int .i64 a0_4] 23 ?_; intro a1 hg w45 hbox hb; have a0 := yaa (hbox); have a2 := yaa ((by rw [hg]; exact (yae (upH HB.out)) : w.heap.size ≤ a1)); replace HB := yaa (yaf (upH HB.out) hb); have a3 := a2; clear hb hbox hg; obtain ⟨o2, o3, o4, o5, o6⟩ := cc5_ a0.out; obtain ⟨o7, o8, o9, p0⟩ := cf4_ a0.out; have p1 := yag a0.out 4) | ((with_reducible refine gc_ 46 rfl ?_); refine gl_ (some 49) rfl Tryd.func46 #[.int .i64 a0_1, .int .i64 0, .int .i64 255] ?_; (with_reducible refine (spec_l1In.calls a0_1 0 255 false _ A33.out).mono ?_); rintro e w' ⟨rfl, ⟨nd, rfl⟩⟩; refine ⟨_, rfl, ?_⟩))
     go_ret
     exact ⟨by first | rfl | (simp [*, errW_none, errW_some] <;> rfl), by repeat (with_reducible first | exact HB.out | apply yac | apply yab | apply yad | refine yah ?_ (Aside0.out ‹_›))⟩
   ·
    rw [if_neg c32] at H
    have c0 := beq_eq_false_iff_ne.mpr c32; have c1 := bne_iff_ne.mpr c32; obtain ⟨b5, A47, H⟩ := bindA H; (try dsimp only at H)
    by_cases c48 : b5 = true
    ·
     subst c48
     rw [if_pos rfl] at H
     by_cases c49 : a0_1 = 0
     ·
      rw [if_pos c49] at H
      have c3 := beq_iff_eq.mpr c49; have c5 := bne_eq_false_iff_eq.mpr c49; clear c49
      by_cases c50 : a0_2 = 0
      ·
       rw [if_pos c50] at H
       have c7 := beq_iff_eq.mpr c50; have c9 := bne_eq_false_iff_eq.mpr c50; clear c50
       by_cases c51 : a0_3 = 0
       ·
        rw [if_pos c51] at H
        have d0 := beq_iff_eq.mpr c51; have d1 := bne_eq_false_iff_eq.mpr c51; clear c51; obtain rfl := Option.some.inj H
        go_enter Tryd.func15, Tryd.ntmps15
        go_wp2_with (first | ((with_reducible refine gd_ 1 rfl ?_); refine bx_ 1 rfl #[.int .i64 a0_0, .int .i64 a0_1, .int .i64 a0_2, .int .i64 a0_3, .int .i64 a0_4] 23 ?_; intro a1 hg w52 hbox hb; have a0 := yaa (hbox); have a2 := yaa ((by rw [hg]; exact (yae (upH HB.out)) : w.heap.size ≤ a1)); replace HB := yaa (yaf (upH HB.out) hb); have a3 := a2; clear hb hbox hg; obtain ⟨p2, p3, p4, p5, p6⟩ := cc5_ a0.out; obtain ⟨p7, p8, p9, q0⟩ := cf4_ a0.out; have q1 := yag a0.out 4) | ((with_reducible refine gc_ 46 rfl ?_); refine gl_ (some 67) rfl Tryd.func46 #[.int .i64 a0_0, .int .i64 2, .int .i64 6] ?_; (with_reducible refine (spec_l1In.calls a0_0 2 6 true _ A47.out).mono ?_); rintro e w' ⟨rfl, ⟨nd, rfl⟩⟩; refine ⟨_, rfl, ?_⟩))
        go_ret
        exact ⟨by first | rfl | (simp [*, errW_none, errW_some] <;> rfl), by repeat (with_reducible first | exact HB.out | apply yac | apply yab | apply yad | refine yah ?_ (Aside0.out ‹_›))⟩
       ·
        rw [if_neg c51] at H
        have d0 := beq_eq_false_iff_ne.mpr c51; have d1 := bne_iff_ne.mpr c51; obtain rfl := Option.some.inj H
        go_enter Tryd.func15, Tryd.ntmps15
        go_wp2_with (first | ((with_reducible refine gd_ 1 rfl ?_); refine bx_ 1 rfl #[.int .i64 a0_0, .int .i64 a0_1, .int .i64 a0_2, .int .i64 a0_3, .int .i64 a0_4] 23 ?_; intro a1 hg w54 hbox hb; have a0 := yaa (hbox); have a2 := yaa ((by rw [hg]; exact (yae (upH HB.out)) : w.heap.size ≤ a1)); replace HB := yaa (yaf (upH HB.out) hb); have a3 := a2; clear hb hbox hg; obtain ⟨q2, q3, q4, q5, q6⟩ := cc5_ a0.out; obtain ⟨q7, q8, q9, r0⟩ := cf4_ a0.out; have r1 := yag a0.out 4) | ((with_reducible refine gc_ 46 rfl ?_); refine gl_ (some 67) rfl Tryd.func46 #[.int .i64 a0_0, .int .i64 2, .int .i64 6] ?_; (with_reducible refine (spec_l1In.calls a0_0 2 6 true _ A47.out).mono ?_); rintro e w' ⟨rfl, ⟨nd, rfl⟩⟩; refine ⟨_, rfl, ?_⟩))
        go_ret
        exact ⟨by first | rfl | (simp [*, errW_none, errW_some] <;> rfl), by repeat (with_reducible first | exact HB.out | apply yac | apply yab | apply yad | refine yah ?_ (Aside0.out ‹_›))⟩
      ·
       rw [if_neg c50] at H
       have c7 := beq_eq_false_iff_ne.mpr c50; have c9 := bne_iff_ne.mpr c50; obtain rfl := Option.some.inj H
       go_enter Tryd.func15, Tryd.ntmps15
       go_wp2_with (first | ((with_reducible refine gd_ 1 rfl ?_); refine bx_ 1 rfl #[.int .i64 a0_0, .int .i64 a0_1, .int .i64 a0_2, .int .i64 a0_3, .int .i64 a0_4] 23 ?_; intro a1 hg w56 hbox hb; have a0 := yaa (hbox); have a2 := yaa ((by rw [hg]; exact (yae (upH HB.out)) : w.heap.size ≤ a1)); replace HB := yaa (yaf (upH HB.out) hb); have a3 := a2; clear hb hbox hg; obtain ⟨r2, r3, r4, r5, r6⟩ := cc5_ a0.out; obtain ⟨r7, r8, r9, s0⟩ := cf4_ a0.out; have s1 := yag a0.out 4) | ((with_reducible refine gc_ 46 rfl ?_); refine gl_ (some 67) rfl Tryd.func46 #[.int .i64 a0_0, .int .i64 2, .int .i64 6] ?_; (with_reducible refine (spec_l1In.calls a0_0 2 6 true _ A47.out).mono ?_); rintro e w' ⟨rfl, ⟨nd, rfl⟩⟩; refine ⟨_, rfl, ?_⟩))
       go_ret
       exact ⟨by first | rfl | (simp [*, errW_none, errW_some] <;> rfl), by repeat (with_reducible first | exact HB.out | apply yac | apply yab | apply yad | refine yah ?_ (Aside0.out ‹_›))⟩
     ·
      rw [if_neg c49] at H
      have c3 := beq_eq_false_iff_ne.mpr c49; have c5 := bne_iff_ne.mpr c49; obtain rfl := Option.some.inj H
      go_enter Tryd.func15, Tryd.ntmps15
      go_wp2_with (first | ((with_reducible refine gd_ 1 rfl ?_); refine bx_ 1 rfl #[.int .i64 a0_0, .int .i64 a0_1, .int .i64 a0_2, .int .i64 a0_3, .int .i64 a0_4] 23 ?_; intro a1 hg w58 hbox hb; have a0 := yaa (hbox); have a2 := yaa ((by rw [hg]; exact (yae (upH HB.out)) : w.heap.size ≤ a1)); replace HB := yaa (yaf (upH HB.out) hb); have a3 := a2; clear hb hbox hg; obtain ⟨s2, s3, s4, s5, s6⟩ := cc5_ a0.out; obtain ⟨s7, s8, s9, t0⟩ := cf4_ a0.out; have t1 := yag a0.out 4) | ((with_reducible refine gc_ 46 rfl ?_); refine gl_ (some 67) rfl Tryd.func46 #[.int .i64 a0_0, .int .i64 2, .int .i64 6] ?_; (with_reducible refine (spec_l1In.calls a0_0 2 6 true _ A47.out).mono ?_); rintro e w' ⟨rfl, ⟨nd, rfl⟩⟩; refine ⟨_, rfl, ?_⟩))
      go_ret
      exact ⟨by first | rfl | (simp [*, errW_none, errW_some] <;> rfl), by repeat (with_reducible first | exact HB.out | apply yac | apply yab | apply yad | refine yah ?_ (Aside0.out ‹_›))⟩
    ·
     replace c48 := Bool.eq_false_iff.mpr c48
     subst c48
     rw [if_neg (show ¬ (false = true) by decide)] at H
     obtain rfl := Option.some.inj H
     go_enter Tryd.func15, Tryd.ntmps15
     go_wp2_with (first | ((with_reducible refine gd_ 1 rfl ?_); refine bx_ 1 rfl #[.int .i64 a0_0, .int .i64 a0_1, .int .i64 a0_2, .int .i64 a0_3, .int .i64 a0_4] 23 ?_; intro a1 hg w60 hbox hb; have a0 := yaa (hbox); have a2 := yaa ((by rw [hg]; exact (yae (upH HB.out)) : w.heap.size ≤ a1)); replace HB := yaa (yaf (upH HB.out) hb); have a3 := a2; clear hb hbox hg; obtain ⟨t2, t3, t4, t5, t6⟩ := cc5_ a0.out; obtain ⟨t7, t8, t9, u0⟩ := cf4_ a0.out; have u1 := yag a0.out 4) | ((with_reducible refine gc_ 46 rfl ?_); refine gl_ (some 67) rfl Tryd.func46 #[.int .i64 a0_0, .int .i64 2, .int .i64 6] ?_; (with_reducible refine (spec_l1In.calls a0_0 2 6 false _ A47.out).mono ?_); rintro e w' ⟨rfl, ⟨nd, rfl⟩⟩; refine ⟨_, rfl, ?_⟩))
     go_ret
     exact ⟨by first | rfl | (simp [*, errW_none, errW_some] <;> rfl), by repeat (with_reducible first | exact HB.out | apply yac | apply yab | apply yad | refine yah ?_ (Aside0.out ‹_›))⟩
end
section
def spec_l6All.l0 : Nat → List (S23) → Int → Option (Bool)
 | 0, _, _ => none
 | k + 1, x0, x3 => if x3 < (x0.length : Int) then (if 0 ≤ x3 then ((spec_OpOk.f ((rd_T23 x0 x3).f0) ((rd_T23 x0 x3).f1) ((rd_T23 x0 x3).f2) ((rd_T23 x0 x3).f3) ((rd_T23 x0 x3).f4)).bind fun t102 => (if t102 = true then (spec_l6All.l0 k x0 (wrap64 (x3 + 1))) else (some false))) else (none)) else (some (decide ((x0.length : Int) ≤ 5)))
def spec_l6All.f (k : Nat) (l0 : List (S23)) : Option (Bool) := spec_l6All.l0 k l0 0
set_option maxHeartbeats 8000000 in
set_option maxRecDepth 100000 in
theorem spec_l6All.calls (k : Nat) (A0 : Option Addr) (c0 : Nat) (l0 : List (S23)) (r : Bool) (w : World) (hr0 : Kd.C k23 w A0 l0.length l0) (hc0 : l0.length ≤ c0) (h : spec_l6All.f k l0 = some r) :
  Calls Tryd.prog 63 #[.slice A0 l0.length c0] w fun e w' => e = .returned (.bool r) ∧ Below w.heap.size w w' := by
 have hu23 := Tryd.underlying23; have HR0 := Aside0.mk hr0; have HC0 := Aside0.mk hc0; clear hr0 hc0; have HB := Aside0.mk (Below.refl w.heap.size w); have H : (spec_l6All.l0 k l0 0) = some r := h; clear h; have H' := Aside0.mk H; clear H
 go_enter Tryd.func63, Tryd.ntmps63
 go_wp2
 (try simp only [Act.put, List.setIfInBounds_toArray, List.set_cons_zero, List.set_cons_succ])
 go_loopg [3] k (fun kq v3 w' => ∃ (a1 : Int), v3 = .int .i64 a1 ∧ Aside0 (spec_l6All.l0 kq l0 a1 = some r) ∧ Aside0 (kq ≤ k) ∧ Aside0 (Below w.heap.size w w'))
 case atStart => exact ⟨(0), (by first | rfl | (simp; done) | (simp [*]; done)), H', ⟨Nat.le_refl _⟩, ⟨upH HB.out⟩⟩
 case round =>
  clear H'; obtain ⟨a1, rfl, HA, HK1, HB⟩ := hrel
  cases gk with
  | zero => exact absurd HA.out (by simp [spec_l6All.l0])
  | succ k1 =>
   have H := HA.out; clear HA
   simp only [spec_l6All.l0] at H
   by_cases c2 : a1 < (l0.length : Int)
   ·
    rw [if_pos c2] at H
    have a8 : decide (a1 < (l0.length : Int)) = true := decide_eq_true c2; clear c2
    by_cases c3 : 0 ≤ a1
    ·
     rw [if_pos c3] at H
     replace c3 := decide_eq_true c3; obtain ⟨a9, A4, H⟩ := bindA H; (try dsimp only at H)
     by_cases c5 : a9 = true
     ·
      subst c5
      rw [if_pos rfl] at H
      have H' := Aside0.mk H; clear H; have p101 : 0 ≤ (a1 : Int) := of_decide_eq_true (by assumption); have q101 : a1 < (l0.length : Int) := of_decide_eq_true (by assumption); obtain ⟨ad101, a7, a2, a3, a4, a5, a6⟩ := at_T23 HR0.out a1 p101 q101
      cases a7
      replace a2 := (upc_ HB.out a2 :); replace a3 := (upc_ HB.out a3 :); replace a4 := (upc_ HB.out a4 :); replace a5 := (upc_ HB.out a5 :); replace a6 := (upc_ HB.out a6 :); replace p101 := eq_true p101; replace q101 := eq_true q101
      go_wp2_with (first | ((with_reducible refine gc_ 15 rfl ?_); refine gl_ (some 14) rfl Tryd.func15 #[.agg #[.int .i64 ((rd_T23 l0 a1).f0), .int .i64 ((rd_T23 l0 a1).f1), .int .i64 ((rd_T23 l0 a1).f2), .int .i64 ((rd_T23 l0 a1).f3), .int .i64 ((rd_T23 l0 a1).f4)]] ?_; (with_reducible refine (spec_OpOk.calls ((rd_T23 l0 a1).f0) ((rd_T23 l0 a1).f1) ((rd_T23 l0 a1).f2) ((rd_T23 l0 a1).f3) ((rd_T23 l0 a1).f4) true _ A4.out).mono ?_); rintro e w6 ⟨rfl, hb⟩; refine ⟨_, rfl, ?_⟩; replace HB := Aside0.mk (below_step (upH HB.out) hb); (try clear hb)))
      go_roundg k1
      case measure => have := HK1.out; omega
      case rel => exact ⟨(wrap64 (a1 + 1)), (by first | rfl | (simp; done) | (simp [*]; done)), H', ⟨by have := HK1.out; omega⟩, ⟨upH HB.out⟩⟩
     ·
      replace c5 := Bool.eq_false_iff.mpr c5
      subst c5
      rw [if_neg (show ¬ (false = true) by decide)] at H
      obtain rfl := Option.some.inj H; have p101 : 0 ≤ (a1 : Int) := of_decide_eq_true (by assumption); have q101 : a1 < (l0.length : Int) := of_decide_eq_true (by assumption); obtain ⟨ad101, a7, a2, a3, a4, a5, a6⟩ := at_T23 HR0.out a1 p101 q101
      cases a7
      replace a2 := (upc_ HB.out a2 :); replace a3 := (upc_ HB.out a3 :); replace a4 := (upc_ HB.out a4 :); replace a5 := (upc_ HB.out a5 :); replace a6 := (upc_ HB.out a6 :); replace p101 := eq_true p101; replace q101 := eq_true q101
      go_wp2_with (first | ((with_reducible refine gc_ 15 rfl ?_); refine gl_ (some 14) rfl Tryd.func15 #[.agg #[.int .i64 ((rd_T23 l0 a1).f0), .int .i64 ((rd_T23 l0 a1).f1), .int .i64 ((rd_T23 l0 a1).f2), .int .i64 ((rd_T23 l0 a1).f3), .int .i64 ((rd_T23 l0 a1).f4)]] ?_; (with_reducible refine (spec_OpOk.calls ((rd_T23 l0 a1).f0) ((rd_T23 l0 a1).f1) ((rd_T23 l0 a1).f2) ((rd_T23 l0 a1).f3) ((rd_T23 l0 a1).f4) false _ A4.out).mono ?_); rintro e w7 ⟨rfl, hb⟩; refine ⟨_, rfl, ?_⟩; replace HB := Aside0.mk (below_step (upH HB.out) hb); (try clear hb)))
      go_ret
      exact ⟨by first | rfl | (simp [*, errW_none, errW_some] <;> rfl), upH HB.out⟩
    ·
     rw [if_neg c3] at H
     exact absurd H (by simp)
   ·
    rw [if_neg c2] at H
    have a8 : decide (a1 < (l0.length : Int)) = false := decide_eq_false c2; clear c2; obtain rfl := Option.some.inj H
    go_wp2
    go_ret
    exact ⟨by first | rfl | (simp [*, errW_none, errW_some] <;> rfl), upH HB.out⟩
end
section
mutual
def spec_l7Path.j0 : Nat → ByteArray → Bool → Option (Bool)
 | 0, _, _ => none
 | k + 1, x0, x11 => if x11 = true then (some false) else (spec_l7Path.l0 k x0 0)
def spec_l7Path.l0 : Nat → ByteArray → Int → Option (Bool)
 | 0, _, _ => none
 | k + 1, x0, x3 => if x3 < (x0.size : Int) then (if 0 ≤ x3 then (if (bt x0 x3) < 97 then (if (bt x0 x3) < 48 then (some false) else (if (bt x0 x3) > 57 then (some false) else (spec_l7Path.l0 k x0 (wrap64 (x3 + 1))))) else (if (bt x0 x3) > 122 then (if (bt x0 x3) < 48 then (some false) else (if (bt x0 x3) > 57 then (some false) else (spec_l7Path.l0 k x0 (wrap64 (x3 + 1))))) else (spec_l7Path.l0 k x0 (wrap64 (x3 + 1))))) else (none)) else (some true)
end
def spec_l7Path.f (k : Nat) (a0 : ByteArray) : Option (Bool) := if (a0.size : Int) = 0 then (spec_l7Path.j0 k a0 true) else (spec_l7Path.j0 k a0 (decide ((a0.size : Int) > 6)))
set_option maxHeartbeats 8000000 in
set_option maxRecDepth 100000 in
theorem spec_l7Path.calls (k : Nat) (a0 : ByteArray) (r : Bool) (w : World) (h : spec_l7Path.f k a0 = some r) :
  Calls Tryd.prog 64 #[.string a0] w fun e w' => e = .returned (.bool r) ∧ Drawn0 w w' := by
 have H : (if (a0.size : Int) = 0 then (spec_l7Path.j0 k a0 true) else (spec_l7Path.j0 k a0 (decide ((a0.size : Int) > 6)))) = some r := h; clear h; have HC2 := Aside0.mk H; clear H
 go_enter Tryd.func64, Tryd.ntmps64
 go_upto_region 1 with (fail)
 go_cut [11] (fun v11 wc => ∃ (kq : Nat) (a3 : Bool), v11 = .bool a3 ∧ Aside0 (spec_l7Path.j0 kq a0 a3 = some r) ∧ Aside0 (kq ≤ k) ∧ Drawn0 w wc)
 case first =>
  have H := HC2.out; clear HC2
  by_cases c3 : (a0.size : Int) = 0
  ·
   rw [if_pos c3] at H
   have a2 := beq_iff_eq.mpr c3; have a4 := bne_eq_false_iff_eq.mpr c3; clear c3
   (first | rw [a2] | (simp only [i64_w, i32_w]; rw [a2]) | skip)
   have H' := Aside0.mk H; clear H
   go_wp2
   go_meet
   case rel => exact ⟨_, (true), (by first | rfl | (simp; done) | (simp [*]; done)), H', ⟨by first | omega | exact Nat.le_refl _⟩, by repeat (first | exact Drawn0.refl _ | apply Drawn0.step)⟩
  ·
   rw [if_neg c3] at H
   have a2 := beq_eq_false_iff_ne.mpr c3; have a4 := bne_iff_ne.mpr c3
   (first | rw [a2] | (simp only [i64_w, i32_w]; rw [a2]) | skip)
   have H' := Aside0.mk H; clear H
   go_wp2
   go_meet
   case rel => exact ⟨_, (decide ((a0.size : Int) > 6)), (by first | rfl | (simp; done) | (simp [*]; done)), H', ⟨by first | omega | exact Nat.le_refl _⟩, by repeat (first | exact Drawn0.refl _ | apply Drawn0.step)⟩
 case rest =>
  clear HC2; (try clear p2); (try clear c3); (try clear a2); (try clear a4); obtain ⟨kq, a3, rfl, HA, HJ1, ⟨mc1, rfl⟩⟩ := hcut
  cases kq with
  | zero => exact absurd HA.out (by simp [spec_l7Path.j0])
  | succ kj1 =>
   have H := HA.out; clear HA
   simp only [spec_l7Path.j0] at H
   by_cases c4 : a3 = true
   ·
    subst c4
    rw [if_pos rfl] at H
    obtain rfl := Option.some.inj H
    go_wp2
    go_ret
    exact ⟨by first | rfl | (simp; done) | (simp [*]; done), by repeat (first | exact Drawn0.refl _ | apply Drawn0.step)⟩
   ·
    replace c4 := Bool.eq_false_iff.mpr c4
    subst c4
    rw [if_neg (show ¬ (false = true) by decide)] at H
    have H' := Aside0.mk H; clear H
    go_wp2
    (try simp only [Act.put, List.setIfInBounds_toArray, List.set_cons_zero, List.set_cons_succ])
    go_loopg [3] kj1 (fun kq v3 w' => ∃ (a1 : Int), v3 = .int .i64 a1 ∧ Aside0 (spec_l7Path.l0 kq a0 a1 = some r) ∧ Aside0 (kq ≤ kj1) ∧ Drawn0 w w')
    case atStart => exact ⟨(0), (by first | rfl | (simp; done) | (simp [*]; done)), H', ⟨Nat.le_refl _⟩, by repeat (first | exact Drawn0.refl _ | apply Drawn0.step)⟩
    case round =>
     clear H'; (try clear c1); (try clear p2); (try clear c3); (try clear a2); (try clear a4); (try clear c4); (try clear p2); obtain ⟨a1, rfl, HA, HK2, ⟨m2, rfl⟩⟩ := hrel
     cases gk with
     | zero => exact absurd HA.out (by simp [spec_l7Path.l0])
     | succ k2 =>
      have H := HA.out; clear HA
      simp only [spec_l7Path.l0] at H
      by_cases c5 : a1 < (a0.size : Int)
      ·
       rw [if_pos c5] at H
       have b2 : decide (a1 < (a0.size : Int)) = true := decide_eq_true c5; clear c5
       by_cases c6 : 0 ≤ a1
       ·
        rw [if_pos c6] at H
        replace c6 := decide_eq_true c6
        by_cases c8 : (bt a0 a1) < 97
        ·
         rw [if_pos c8] at H
         have b3 : decide ((bt a0 a1) < 97) = true := decide_eq_true c8; clear c8
         by_cases c10 : (bt a0 a1) < 48
         ·
          rw [if_pos c10] at H
          have a6 : decide ((bt a0 a1) < 48) = true := decide_eq_true c10; clear c10; obtain rfl := Option.some.inj H; have p7 : 0 ≤ (a1 : Int) := of_decide_eq_true (by assumption); have q7 : a1 < (a0.size : Int) := of_decide_eq_true (by assumption); have hx7 := bt_at a0 a1; replace p7 := eq_true p7; replace q7 := eq_true q7; have p9 : 0 ≤ (a1 : Int) := of_decide_eq_true (by assumption); have q9 : a1 < (a0.size : Int) := of_decide_eq_true (by assumption); have hx9 := bt_at a0 a1; replace p9 := eq_true p9; replace q9 := eq_true q9
          go_wp2
          go_ret
          exact ⟨by first | rfl | (simp; done) | (simp [*]; done), by repeat (first | exact Drawn0.refl _ | apply Drawn0.step)⟩
         ·
          rw [if_neg c10] at H
          have a6 : decide ((bt a0 a1) < 48) = false := decide_eq_false c10; clear c10
          by_cases c12 : (bt a0 a1) > 57
          ·
           rw [if_pos c12] at H
           have a7 : decide (57 < (bt a0 a1)) = true := decide_eq_true c12; clear c12; obtain rfl := Option.some.inj H; have p7 : 0 ≤ (a1 : Int) := of_decide_eq_true (by assumption); have q7 : a1 < (a0.size : Int) := of_decide_eq_true (by assumption); have hx7 := bt_at a0 a1; replace p7 := eq_true p7; replace q7 := eq_true q7; have p9 : 0 ≤ (a1 : Int) := of_decide_eq_true (by assumption); have q9 : a1 < (a0.size : Int) := of_decide_eq_true (by assumption); have hx9 := bt_at a0 a1; replace p9 := eq_true p9; replace q9 := eq_true q9; have p11 : 0 ≤ (a1 : Int) := of_decide_eq_true (by assumption); have q11 : a1 < (a0.size : Int) := of_decide_eq_true (by assumption); have b4 := bt_at a0 a1; replace p11 := eq_true p11; replace q11 := eq_true q11
           go_wp2
           go_ret
           exact ⟨by first | rfl | (simp; done) | (simp [*]; done), by repeat (first | exact Drawn0.refl _ | apply Drawn0.step)⟩
          ·
           rw [if_neg c12] at H
           have a7 : decide (57 < (bt a0 a1)) = false := decide_eq_false c12; clear c12; have H' := Aside0.mk H; clear H; have p7 : 0 ≤ (a1 : Int) := of_decide_eq_true (by assumption); have q7 : a1 < (a0.size : Int) := of_decide_eq_true (by assumption); have hx7 := bt_at a0 a1; replace p7 := eq_true p7; replace q7 := eq_true q7; have p9 : 0 ≤ (a1 : Int) := of_decide_eq_true (by assumption); have q9 : a1 < (a0.size : Int) := of_decide_eq_true (by assumption); have hx9 := bt_at a0 a1; replace p9 := eq_true p9; replace q9 := eq_true q9; have p11 : 0 ≤ (a1 : Int) := of_decide_eq_true (by assumption); have q11 : a1 < (a0.size : Int) := of_decide_eq_true (by assumption); have b4 := bt_at a0 a1; replace p11 := eq_true p11; replace q11 := eq_true q11
           go_wp2
           go_roundg k2
           case measure => have := HJ1.out; have := HK2.out; omega
           case rel => exact ⟨(wrap64 (a1 + 1)), (by first | rfl | (simp; done) | (simp [*]; done)), H', ⟨by have := HJ1.out; have := HK2.out; omega⟩, by repeat (first | exact Drawn0.refl _ | apply Drawn0.step)⟩
        ·
         rw [if_neg c8] at H
         have b3 : decide ((bt a0 a1) < 97) = false := decide_eq_false c8; clear c8
         by_cases c14 : (bt a0 a1) > 122
         ·
          rw [if_pos c14] at H
          have a8 : decide (122 < (bt a0 a1)) = true := decide_eq_true c14; clear c14
          by_cases c16 : (bt a0 a1) < 48
          ·
           rw [if_pos c16] at H
           have a9 : decide ((bt a0 a1) < 48) = true := decide_eq_true c16; clear c16; obtain rfl := Option.some.inj H; have p7 : 0 ≤ (a1 : Int) := of_decide_eq_true (by assumption); have q7 : a1 < (a0.size : Int) := of_decide_eq_true (by assumption); have hx7 := bt_at a0 a1; replace p7 := eq_true p7; replace q7 := eq_true q7; have p13 : 0 ≤ (a1 : Int) := of_decide_eq_true (by assumption); have q13 : a1 < (a0.size : Int) := of_decide_eq_true (by assumption); have a5 := bt_at a0 a1; replace p13 := eq_true p13; replace q13 := eq_true q13; have p15 : 0 ≤ (a1 : Int) := of_decide_eq_true (by assumption); have q15 : a1 < (a0.size : Int) := of_decide_eq_true (by assumption); have b0 := bt_at a0 a1; replace p15 := eq_true p15; replace q15 := eq_true q15
           go_wp2
           go_ret
           exact ⟨by first | rfl | (simp; done) | (simp [*]; done), by repeat (first | exact Drawn0.refl _ | apply Drawn0.step)⟩
          ·
           rw [if_neg c16] at H
           have a9 : decide ((bt a0 a1) < 48) = false := decide_eq_false c16; clear c16
           by_cases c18 : (bt a0 a1) > 57
           ·
            rw [if_pos c18] at H
            have b1 : decide (57 < (bt a0 a1)) = true := decide_eq_true c18; clear c18; obtain rfl := Option.some.inj H; have p7 : 0 ≤ (a1 : Int) := of_decide_eq_true (by assumption); have q7 : a1 < (a0.size : Int) := of_decide_eq_true (by assumption); have hx7 := bt_at a0 a1; replace p7 := eq_true p7; replace q7 := eq_true q7; have p13 : 0 ≤ (a1 : Int) := of_decide_eq_true (by assumption); have q13 : a1 < (a0.size : Int) := of_decide_eq_true (by assumption); have a5 := bt_at a0 a1; replace p13 := eq_true p13; replace q13 := eq_true q13; have p15 : 0 ≤ (a1 : Int) := of_decide_eq_true (by assumption); have q15 : a1 < (a0.size : Int) := of_decide_eq_true (by assumption); have b0 := bt_at a0 a1; replace p15 := eq_true p15; replace q15 := eq_true q15; have p17 : 0 ≤ (a1 : Int) := of_decide_eq_true (by assumption); have q17 : a1 < (a0.size : Int) := of_decide_eq_true (by assumption); have b5 := bt_at a0 a1; replace p17 := eq_true p17; replace q17 := eq_true q17
            go_wp2
            go_ret
            exact ⟨by first | rfl | (simp; done) | (simp [*]; done), by repeat (first | exact Drawn0.refl _ | apply Drawn0.step)⟩
           ·
            rw [if_neg c18] at H
            have b1 : decide (57 < (bt a0 a1)) = false := decide_eq_false c18; clear c18; have H' := Aside0.mk H; clear H; have p7 : 0 ≤ (a1 : Int) := of_decide_eq_true (by assumption); have q7 : a1 < (a0.size : Int) := of_decide_eq_true (by assumption); have hx7 := bt_at a0 a1; replace p7 := eq_true p7; replace q7 := eq_true q7; have p13 : 0 ≤ (a1 : Int) := of_decide_eq_true (by assumption); have q13 : a1 < (a0.size : Int) := of_decide_eq_true (by assumption); have a5 := bt_at a0 a1; replace p13 := eq_true p13; replace q13 := eq_true q13; have p15 : 0 ≤ (a1 : Int) := of_decide_eq_true (by assumption); have q15 : a1 < (a0.size : Int) := of_decide_eq_true (by assumption); have b0 := bt_at a0 a1; replace p15 := eq_true p15; replace q15 := eq_true q15; have p17 : 0 ≤ (a1 : Int) := of_decide_eq_true (by assumption); have q17 : a1 < (a0.size : Int) := of_decide_eq_true (by assumption); have b5 := bt_at a0 a1; replace p17 := eq_true p17; replace q17 := eq_true q17
            go_wp2
            go_roundg k2
            case measure => have := HJ1.out; have := HK2.out; omega
            case rel => exact ⟨(wrap64 (a1 + 1)), (by first | rfl | (simp; done) | (simp [*]; done)), H', ⟨by have := HJ1.out; have := HK2.out; omega⟩, by repeat (first | exact Drawn0.refl _ | apply Drawn0.step)⟩
         ·
          rw [if_neg c14] at H
          have a8 : decide (122 < (bt a0 a1)) = false := decide_eq_false c14; clear c14; have H' := Aside0.mk H; clear H; have p7 : 0 ≤ (a1 : Int) := of_decide_eq_true (by assumption); have q7 : a1 < (a0.size : Int) := of_decide_eq_true (by assumption); have hx7 := bt_at a0 a1; replace p7 := eq_true p7; replace q7 := eq_true q7; have p13 : 0 ≤ (a1 : Int) := of_decide_eq_true (by assumption); have q13 : a1 < (a0.size : Int) := of_decide_eq_true (by assumption); have a5 := bt_at a0 a1; replace p13 := eq_true p13; replace q13 := eq_true q13
          go_wp2
          go_roundg k2
          case measure => have := HJ1.out; have := HK2.out; omega
          case rel => exact ⟨(wrap64 (a1 + 1)), (by first | rfl | (simp; done) | (simp [*]; done)), H', ⟨by have := HJ1.out; have := HK2.out; omega⟩, by repeat (first | exact Drawn0.refl _ | apply Drawn0.step)⟩
       ·
        rw [if_neg c6] at H
        exact absurd H (by simp)
      ·
       rw [if_neg c5] at H
       have b2 : decide (a1 < (a0.size : Int)) = false := decide_eq_false c5; clear c5; obtain rfl := Option.some.inj H
       go_wp2
       go_ret
       exact ⟨by first | rfl | (simp; done) | (simp [*]; done), by repeat (first | exact Drawn0.refl _ | apply Drawn0.step)⟩
end
section
open Go.Proofs.YtfafjpfigphchaaDoorW.PrintWords.Aside0 renaming mk → yaa

def spec_AskOk.f (k : Nat) (l0_0 : List (S23)) (a0_1 : ByteArray) (a0_2 : Int) : Option (Bool) := (spec_l6All.f k l0_0).bind fun t102 => (if t102 = true then ((spec_l7Path.f k a0_1).bind fun t103 => (if t103 = true then ((spec_l1In.f a0_2 0 9999).bind fun t104 => (some t104)) else (some false))) else (some false))
set_option maxHeartbeats 8000000 in
set_option maxRecDepth 100000 in
theorem spec_AskOk.calls (k : Nat) (A0_0 : Option Addr) (c0_0 : Nat) (l0_0 : List (S23)) (a0_1 : ByteArray) (a0_2 : Int) (r : Bool) (w : World) (hr0_0 : Kd.C k23 w A0_0 l0_0.length l0_0) (hc0_0 : l0_0.length ≤ c0_0) (h : spec_AskOk.f k l0_0 a0_1 a0_2 = some r) :
  Calls Tryd.prog 28 #[.agg #[.slice A0_0 l0_0.length c0_0, .string a0_1, .int .i64 a0_2]] w fun e w' => e = .returned (.bool r) ∧ Below w.heap.size w w' := by
 have hu37 := Tryd.underlying37; have HR0_0 := yaa hr0_0; have HC0_0 := yaa hc0_0; clear hr0_0 hc0_0; have HB := yaa (Below.refl w.heap.size w); have H : ((spec_l6All.f k l0_0).bind fun a9 => (if a9 = true then ((spec_l7Path.f k a0_1).bind fun b0 => (if b0 = true then ((spec_l1In.f a0_2 0 9999).bind fun b1 => (some b1)) else (some false))) else (some false))) = some r := h; clear h; obtain ⟨a9, A2, H⟩ := bindA H; (try dsimp only at H)
 by_cases c3 : a9 = true
 ·
  subst c3
  rw [if_pos rfl] at H
  obtain ⟨b0, A4, H⟩ := bindA H; (try dsimp only at H)
  by_cases c5 : b0 = true
  ·
   subst c5
   rw [if_pos rfl] at H
   obtain ⟨b1, A6, H⟩ := bindA H; (try dsimp only at H); obtain rfl := Option.some.inj H
   go_enter Tryd.func28, Tryd.ntmps28
   go_wp2_with (first | ((with_reducible refine gd_ 1 rfl ?_); refine bx_ 1 rfl #[.slice A0_0 l0_0.length c0_0, .string a0_1, .int .i64 a0_2] 37 ?_; intro a4 hg w7 hbox hb; have a3 := yaa (hbox); have a5 := yaa ((by rw [hg]; exact (below_size (upH HB.out)) : w.heap.size ≤ a4)); replace HB := yaa (below_step (upH HB.out) hb); have a8 := a5; clear hb hbox hg; obtain ⟨d8, d9, e0⟩ := cc3_ a3.out; obtain ⟨e1, e2⟩ := cf2_ a3.out; have e3 := blk_frozen a3.out 2) | ((with_reducible refine gc_ 63 rfl ?_); refine gl_ (some 5) rfl Tryd.func63 #[.slice A0_0 l0_0.length c0_0] ?_; (with_reducible refine (spec_l6All.calls k _ _ l0_0 true _ ?side1 ?side2 A2.out).mono ?_); (case side1 => repeat (first | exact (Kd.C_below HR0_0.out HB.out) | (with_reducible refine Kd.C_alloc ?_ _) | (with_reducible refine Kd.C_drewN ?_ _) | (with_reducible refine Kd.C_drew ?_))); (case side2 => exact HC0_0.out); rintro e w9 ⟨rfl, hb⟩; refine ⟨_, rfl, ?_⟩; replace a3 := yaa (blk_below (upB a3.out) hb); replace HB := yaa (below_step (by repeat (with_reducible first | exact HB.out | apply below_alloc | apply pw_below_drewN | apply below_drew1 | refine below_set ?_ (Aside0.out ‹_›))) hb); (try clear hb); obtain ⟨b2, b3, b4⟩ := cc3_ a3.out; obtain ⟨b5, b6⟩ := cf2_ a3.out; have b7 := blk_frozen a3.out 2) | (go_at_call 64; (with_reducible refine (spec_l7Path.calls k a0_1 true _ A4.out).mono ?_); rintro e w' ⟨rfl, ⟨nd, rfl⟩⟩) | (go_at_call 46; (with_reducible refine (spec_l1In.calls a0_2 0 9999 b1 _ A6.out).mono ?_); rintro e w' ⟨rfl, ⟨nd, rfl⟩⟩))
   go_ret
   exact ⟨by first | rfl | (simp [*, errW_none, errW_some] <;> rfl), by repeat (with_reducible first | exact HB.out | apply below_alloc | apply pw_below_drewN | apply below_drew1 | refine below_set ?_ (Aside0.out ‹_›))⟩
  ·
   replace c5 := Bool.eq_false_iff.mpr c5
   subst c5
   rw [if_neg (show ¬ (false = true) by decide)] at H
   obtain rfl := Option.some.inj H
   go_enter Tryd.func28, Tryd.ntmps28
   go_wp2_with (first | ((with_reducible refine gd_ 1 rfl ?_); refine bx_ 1 rfl #[.slice A0_0 l0_0.length c0_0, .string a0_1, .int .i64 a0_2] 37 ?_; intro a4 hg w11 hbox hb; have a3 := yaa (hbox); have a5 := yaa ((by rw [hg]; exact (below_size (upH HB.out)) : w.heap.size ≤ a4)); replace HB := yaa (below_step (upH HB.out) hb); have a8 := a5; clear hb hbox hg; obtain ⟨b8, b9, c0⟩ := cc3_ a3.out; obtain ⟨c1, c2⟩ := cf2_ a3.out; have c4 := blk_frozen a3.out 2) | ((with_reducible refine gc_ 63 rfl ?_); refine gl_ (some 5) rfl Tryd.func63 #[.slice A0_0 l0_0.length c0_0] ?_; (with_reducible refine (spec_l6All.calls k _ _ l0_0 true _ ?side1 ?side2 A2.out).mono ?_); (case side1 => repeat (first | exact (Kd.C_below HR0_0.out HB.out) | (with_reducible refine Kd.C_alloc ?_ _) | (with_reducible refine Kd.C_drewN ?_ _) | (with_reducible refine Kd.C_drew ?_))); (case side2 => exact HC0_0.out); rintro e w13 ⟨rfl, hb⟩; refine ⟨_, rfl, ?_⟩; replace a3 := yaa (blk_below (upB a3.out) hb); replace HB := yaa (below_step (by repeat (with_reducible first | exact HB.out | apply below_alloc | apply pw_below_drewN | apply below_drew1 | refine below_set ?_ (Aside0.out ‹_›))) hb); (try clear hb); obtain ⟨c6, c7, c8⟩ := cc3_ a3.out; obtain ⟨c9, d0⟩ := cf2_ a3.out; have d1 := blk_frozen a3.out 2) | (go_at_call 64; (with_reducible refine (spec_l7Path.calls k a0_1 false _ A4.out).mono ?_); rintro e w' ⟨rfl, ⟨nd, rfl⟩⟩))
   go_ret
   exact ⟨by first | rfl | (simp [*, errW_none, errW_some] <;> rfl), by repeat (with_reducible first | exact HB.out | apply below_alloc | apply pw_below_drewN | apply below_drew1 | refine below_set ?_ (Aside0.out ‹_›))⟩
 ·
  replace c3 := Bool.eq_false_iff.mpr c3
  subst c3
  rw [if_neg (show ¬ (false = true) by decide)] at H
  obtain rfl := Option.some.inj H
  go_enter Tryd.func28, Tryd.ntmps28
  go_wp2_with (first | ((with_reducible refine gd_ 1 rfl ?_); refine bx_ 1 rfl #[.slice A0_0 l0_0.length c0_0, .string a0_1, .int .i64 a0_2] 37 ?_; intro a4 hg w15 hbox hb; have a3 := yaa (hbox); have a5 := yaa ((by rw [hg]; exact (below_size (upH HB.out)) : w.heap.size ≤ a4)); replace HB := yaa (below_step (upH HB.out) hb); have a8 := a5; clear hb hbox hg; obtain ⟨d2, d3, d4⟩ := cc3_ a3.out; obtain ⟨d5, d6⟩ := cf2_ a3.out; have d7 := blk_frozen a3.out 2) | ((with_reducible refine gc_ 63 rfl ?_); refine gl_ (some 5) rfl Tryd.func63 #[.slice A0_0 l0_0.length c0_0] ?_; (with_reducible refine (spec_l6All.calls k _ _ l0_0 false _ ?side1 ?side2 A2.out).mono ?_); (case side1 => repeat (first | exact (Kd.C_below HR0_0.out HB.out) | (with_reducible refine Kd.C_alloc ?_ _) | (with_reducible refine Kd.C_drewN ?_ _) | (with_reducible refine Kd.C_drew ?_))); (case side2 => exact HC0_0.out); rintro e w17 ⟨rfl, hb⟩; refine ⟨_, rfl, ?_⟩; replace a3 := yaa (blk_below (upB a3.out) hb); replace HB := yaa (below_step (by repeat (with_reducible first | exact HB.out | apply below_alloc | apply pw_below_drewN | apply below_drew1 | refine below_set ?_ (Aside0.out ‹_›))) hb); (try clear hb)))
  go_ret
  exact ⟨by first | rfl | (simp [*, errW_none, errW_some] <;> rfl), by repeat (with_reducible first | exact HB.out | apply below_alloc | apply pw_below_drewN | apply below_drew1 | refine below_set ?_ (Aside0.out ‹_›))⟩
end
section
def spec_l7Plain.l0 : Nat → Int → ByteArray → Option (ByteArray)
 | 0, _, _ => none
 | k + 1, x0, x3 => if x0 > 9 then ((some (([(wrap64 (48 + (Int.tmod x0 10))) % 256] : List Int) : List Int)).bind fun y101 => (if (strOfNums y101).size + x3.size ≤ 9223372036854775807 then (spec_l7Plain.l0 k (wrap64 (Int.tdiv x0 10)) ((strOfNums y101) ++ x3)) else (none))) else ((some (([(wrap64 (48 + x0)) % 256] : List Int) : List Int)).bind fun y104 => (if (strOfNums y104).size + x3.size ≤ 9223372036854775807 then (some ((strOfNums y104) ++ x3)) else (none)))
def spec_l7Plain.f (k : Nat) (a0 : Int) : Option (ByteArray) := spec_l7Plain.l0 k a0 (⟨#[]⟩ : ByteArray)
set_option maxHeartbeats 8000000 in
set_option maxRecDepth 100000 in
theorem spec_l7Plain.calls (k : Nat) (a0 : Int) (r : ByteArray) (w : World) (h : spec_l7Plain.f k a0 = some r) :
  Calls Tryd.prog 42 #[.int .i64 a0] w fun e w' => e = .returned (.string r) ∧ Below w.heap.size w w' := by
 have HB := Aside0.mk (Below.refl w.heap.size w); have H : (spec_l7Plain.l0 k a0 (⟨#[]⟩ : ByteArray)) = some r := h; clear h; have H' := Aside0.mk H; clear H
 go_enter Tryd.func42, Tryd.ntmps42
 go_wp2
 (try simp only [Act.put, List.setIfInBounds_toArray, List.set_cons_zero, List.set_cons_succ])
 go_loopg [0, 3] k (fun kq v0 v3 w' => ∃ (a1 : Int) (a2 : ByteArray), v0 = .int .i64 a1 ∧ v3 = .string a2 ∧ Aside0 (spec_l7Plain.l0 kq a1 a2 = some r) ∧ Aside0 (kq ≤ k) ∧ Aside0 (Below w.heap.size w w'))
 case atStart => exact ⟨(a0), ((⟨#[]⟩ : ByteArray)), (by first | rfl | (simp; done) | (simp [*]; done)), (by first | rfl | (simp; done) | (simp [*]; done)), H', ⟨Nat.le_refl _⟩, ⟨upH HB.out⟩⟩
 case round =>
  clear H'; obtain ⟨a1, a2, rfl, rfl, HA, HK1, HB⟩ := hrel
  cases gk with
  | zero => exact absurd HA.out (by simp [spec_l7Plain.l0])
  | succ k1 =>
   have H := HA.out; clear HA
   simp only [spec_l7Plain.l0] at H
   by_cases c2 : a1 > 9
   ·
    rw [if_pos c2] at H
    have a5 : decide (9 < a1) = true := decide_eq_true c2; clear c2; obtain ⟨y101, hy101⟩ : ∃ y_ : List Int, y_ = (([(wrap64 (48 + (Int.tmod a1 10))) % 256] : List Int)) := ⟨_, rfl⟩
    replace H : (if (strOfNums y101).size + a2.size ≤ 9223372036854775807 then (spec_l7Plain.l0 k1 (wrap64 (Int.tdiv a1 10)) ((strOfNums y101) ++ a2)) else (none)) = some r := by first | (rw [hy101]; with_reducible exact H) | (have H2_ := (Option.bind_some _ _).symm.trans H; rw [hy101]; with_reducible exact H2_) | (have H2_ := (Option.bind_some _ _).symm.trans H; with_reducible exact H2_) | with_reducible exact H | (rw [hy101]; exact H) | exact H
    have Ny101 := Aside0.mk hy101; clear hy101
    by_cases c3 : (strOfNums y101).size + a2.size ≤ 9223372036854775807
    ·
     rw [if_pos c3] at H
     have a6 := eq_true c3; have a7 : decide ((strOfNums y101).size + a2.size ≤ 9223372036854775807) = true := decide_eq_true c3
     try have a8 : (9223372036854775807 < (strOfNums y101).size + a2.size) = False := eq_false (Nat.not_lt.2 c3)
     have H' := Aside0.mk H; clear H
     go_wp2_with (first | ((with_reducible refine gd_ 10 rfl ?_); refine Kd.R_lit (Kd.int .u8) _ 5 ?hg (N := 10) ?hd (xs := ([(wrap64 (48 + (Int.tmod a1 10))) % 256] : List Int)) (inner := [.int .u8 ((wrap64 (48 + (Int.tmod a1 10))) % 256)]) (ok := fun _ => True) (okp := fun _ => True) ?hr ?hp (fun _ hk => hk) trivial (Below.refl _ _) (Nat.le_refl _) (by simp) ?_; (case hd => rfl); (case hg => rfl); (case hr => first | (go_simp; done) | (go_simp; rfl)); (case hp => exact (Reps.one (show Kd.M (Kd.int .u8) _ _ _ ((wrap64 (48 + (Int.tmod a1 10))) % 256) [.int .u8 ((wrap64 (48 + (Int.tmod a1 10))) % 256)] from rfl) (Reps.none _ _))); intro a9 w4 ho5 hb hg_ hnew_; clear hg_ hnew_; (first | rw [← Ny101.out] at ho5 | (simp only [Int.reduceToNat] at ho5; rw [← Ny101.out] at ho5)); have a3 := Aside0.mk (Kd.R_lower ho5 (below_size (upH HB.out))); replace HB := Aside0.mk (below_step (upH HB.out) hb); clear hb ho5; have hcv6 := own_string (P := Tryd.prog) Tryd.underlying28 Tryd.underlying5 Tryd.underlying9 (Kd.own_of_R a3.out)))
     go_roundg k1
     case measure => have := HK1.out; omega
     case rel => exact ⟨(wrap64 (Int.tdiv a1 10)), ((strOfNums y101) ++ a2), (by first | rfl | (simp; done) | (simp [*]; done)), (by first | rfl | (simp; done) | (simp [*]; done)), H', ⟨by have := HK1.out; omega⟩, ⟨upH HB.out⟩⟩
    ·
     rw [if_neg c3] at H
     exact absurd H (by simp)
   ·
    rw [if_neg c2] at H
    have a5 : decide (9 < a1) = false := decide_eq_false c2; clear c2; obtain ⟨y104, hy104⟩ : ∃ y_ : List Int, y_ = (([(wrap64 (48 + a1)) % 256] : List Int)) := ⟨_, rfl⟩
    replace H : (if (strOfNums y104).size + a2.size ≤ 9223372036854775807 then (some ((strOfNums y104) ++ a2)) else (none)) = some r := by first | (rw [hy104]; with_reducible exact H) | (have H2_ := (Option.bind_some _ _).symm.trans H; rw [hy104]; with_reducible exact H2_) | (have H2_ := (Option.bind_some _ _).symm.trans H; with_reducible exact H2_) | with_reducible exact H | (rw [hy104]; exact H) | exact H
    have Ny104 := Aside0.mk hy104; clear hy104
    by_cases c7 : (strOfNums y104).size + a2.size ≤ 9223372036854775807
    ·
     rw [if_pos c7] at H
     have b0 := eq_true c7; have b1 : decide ((strOfNums y104).size + a2.size ≤ 9223372036854775807) = true := decide_eq_true c7
     try have b2 : (9223372036854775807 < (strOfNums y104).size + a2.size) = False := eq_false (Nat.not_lt.2 c7)
     obtain rfl := Option.some.inj H
     go_wp2_with (first | ((with_reducible refine gd_ 19 rfl ?_); refine Kd.R_lit (Kd.int .u8) _ 5 ?hg (N := 19) ?hd (xs := ([(wrap64 (48 + a1)) % 256] : List Int)) (inner := [.int .u8 ((wrap64 (48 + a1)) % 256)]) (ok := fun _ => True) (okp := fun _ => True) ?hr ?hp (fun _ hk => hk) trivial (Below.refl _ _) (Nat.le_refl _) (by simp) ?_; (case hd => rfl); (case hg => rfl); (case hr => first | (go_simp; done) | (go_simp; rfl)); (case hp => exact (Reps.one (show Kd.M (Kd.int .u8) _ _ _ ((wrap64 (48 + a1)) % 256) [.int .u8 ((wrap64 (48 + a1)) % 256)] from rfl) (Reps.none _ _))); intro b3 w8 ho9 hb hg_ hnew_; clear hg_ hnew_; (first | rw [← Ny104.out] at ho9 | (simp only [Int.reduceToNat] at ho9; rw [← Ny104.out] at ho9)); have a4 := Aside0.mk (Kd.R_lower ho9 (below_size (upH HB.out))); replace HB := Aside0.mk (below_step (upH HB.out) hb); clear hb ho9; have hcv10 := own_string (P := Tryd.prog) Tryd.underlying28 Tryd.underlying5 Tryd.underlying9 (Kd.own_of_R a4.out)))
     go_ret
     exact ⟨by first | rfl | (simp [*, errW_none, errW_some] <;> rfl), upH HB.out⟩
    ·
     rw [if_neg c7] at H
     exact absurd H (by simp)
end
section
open Go.Proofs.YtfafjpfigphchaaDoorW.PrintWords.Reps renaming one → yaa
open Go.Proofs.YtfafjpfigphchaaDoorW.PrintWords.Kd renaming string → yab
open Go.Proofs.YtfafjpfigphchaaDoorW.PrintWords.Aside0 renaming mk → yac

def spec_l7Word.f (a0 : Int) : Option (ByteArray × Int) := (some (([(⟨#[]⟩ : ByteArray), (⟨#[99, 114, 111, 112]⟩ : ByteArray), (⟨#[102, 108, 105, 112, 120]⟩ : ByteArray), (⟨#[102, 108, 105, 112, 121]⟩ : ByteArray), (⟨#[116, 117, 114, 110]⟩ : ByteArray), (⟨#[103, 114, 97, 121]⟩ : ByteArray), (⟨#[98, 108, 117, 114]⟩ : ByteArray), (⟨#[115, 105, 122, 101]⟩ : ByteArray), (⟨#[102, 108, 97, 116]⟩ : ByteArray)] : List ByteArray) : List ByteArray)).bind fun y101 => ((some (([0, 4, 0, 0, 0, 0, 0, 2, 3] : List Int) : List Int)).bind fun y104 => (if 0 ≤ a0 then (if a0 < (y101.length : Int) then (if a0 < (y104.length : Int) then (some (rdOf ByteArray.empty y101 a0, rd y104 a0)) else (none)) else (none)) else (none)))
set_option maxHeartbeats 8000000 in
set_option maxRecDepth 100000 in
theorem spec_l7Word.calls (a0 : Int) (r1 : ByteArray) (r2 : Int) (w : World) (h : spec_l7Word.f a0 = some (r1, r2)) :
  Calls Tryd.prog 41 #[.int .i64 a0] w fun e w' => e = .returned (.tuple #[.string r1, .int .i64 r2]) ∧ Below w.heap.size w w' := by
 have HB := yac (Below.refl w.heap.size w); have H : ((some (([(⟨#[]⟩ : ByteArray), (⟨#[99, 114, 111, 112]⟩ : ByteArray), (⟨#[102, 108, 105, 112, 120]⟩ : ByteArray), (⟨#[102, 108, 105, 112, 121]⟩ : ByteArray), (⟨#[116, 117, 114, 110]⟩ : ByteArray), (⟨#[103, 114, 97, 121]⟩ : ByteArray), (⟨#[98, 108, 117, 114]⟩ : ByteArray), (⟨#[115, 105, 122, 101]⟩ : ByteArray), (⟨#[102, 108, 97, 116]⟩ : ByteArray)] : List ByteArray) : List ByteArray)).bind fun y101 => ((some (([0, 4, 0, 0, 0, 0, 0, 2, 3] : List Int) : List Int)).bind fun y104 => (if 0 ≤ a0 then (if a0 < (y101.length : Int) then (if a0 < (y104.length : Int) then (some (rdOf ByteArray.empty y101 a0, rd y104 a0)) else (none)) else (none)) else (none)))) = some (r1, r2) := h; clear h; obtain ⟨y101, hy101, H⟩ := bindY H; (try dsimp only at H); have Ny101 := yac hy101; clear hy101; obtain ⟨y104, hy104, H⟩ := bindY H; (try dsimp only at H); have Ny104 := yac hy104; clear hy104
 by_cases c2 : 0 ≤ a0
 ·
  rw [if_pos c2] at H
  replace c2 := decide_eq_true c2
  by_cases c3 : a0 < (y101.length : Int)
  ·
   rw [if_pos c3] at H
   replace c3 := decide_eq_true c3
   by_cases c4 : a0 < (y104.length : Int)
   ·
    rw [if_pos c4] at H
    replace c4 := decide_eq_true c4
    simp only [Option.some.injEq, Prod.mk.injEq] at H
    obtain ⟨rfl, rfl⟩ := H
    go_enter Tryd.func41, Tryd.ntmps41
    go_wp2_with (first | ((with_reducible refine gd_ 6 rfl ?_); refine Kd.R_lit yab _ 9 ?hg (N := 6) ?hd (xs := ([(⟨#[]⟩ : ByteArray), (⟨#[99, 114, 111, 112]⟩ : ByteArray), (⟨#[102, 108, 105, 112, 120]⟩ : ByteArray), (⟨#[102, 108, 105, 112, 121]⟩ : ByteArray), (⟨#[116, 117, 114, 110]⟩ : ByteArray), (⟨#[103, 114, 97, 121]⟩ : ByteArray), (⟨#[98, 108, 117, 114]⟩ : ByteArray), (⟨#[115, 105, 122, 101]⟩ : ByteArray), (⟨#[102, 108, 97, 116]⟩ : ByteArray)] : List ByteArray)) (inner := [.string (⟨#[]⟩ : ByteArray), .string (⟨#[99, 114, 111, 112]⟩ : ByteArray), .string (⟨#[102, 108, 105, 112, 120]⟩ : ByteArray), .string (⟨#[102, 108, 105, 112, 121]⟩ : ByteArray), .string (⟨#[116, 117, 114, 110]⟩ : ByteArray), .string (⟨#[103, 114, 97, 121]⟩ : ByteArray), .string (⟨#[98, 108, 117, 114]⟩ : ByteArray), .string (⟨#[115, 105, 122, 101]⟩ : ByteArray), .string (⟨#[102, 108, 97, 116]⟩ : ByteArray)]) (ok := fun _ => True) (okp := fun _ => True) ?hr ?hp (fun _ hk => hk) trivial (Below.refl _ _) (Nat.le_refl _) (by simp) ?_; (case hd => rfl); (case hg => rfl); (case hr => first | (go_simp; done) | (go_simp; rfl)); (case hp => exact (yaa (show Kd.M yab _ _ _ (⟨#[]⟩ : ByteArray) [.string (⟨#[]⟩ : ByteArray)] from rfl) (yaa (show Kd.M yab _ _ _ (⟨#[99, 114, 111, 112]⟩ : ByteArray) [.string (⟨#[99, 114, 111, 112]⟩ : ByteArray)] from rfl) (yaa (show Kd.M yab _ _ _ (⟨#[102, 108, 105, 112, 120]⟩ : ByteArray) [.string (⟨#[102, 108, 105, 112, 120]⟩ : ByteArray)] from rfl) (yaa (show Kd.M yab _ _ _ (⟨#[102, 108, 105, 112, 121]⟩ : ByteArray) [.string (⟨#[102, 108, 105, 112, 121]⟩ : ByteArray)] from rfl) (yaa (show Kd.M yab _ _ _ (⟨#[116, 117, 114, 110]⟩ : ByteArray) [.string (⟨#[116, 117, 114, 110]⟩ : ByteArray)] from rfl) (yaa (show Kd.M yab _ _ _ (⟨#[103, 114, 97, 121]⟩ : ByteArray) [.string (⟨#[103, 114, 97, 121]⟩ : ByteArray)] from rfl) (yaa (show Kd.M yab _ _ _ (⟨#[98, 108, 117, 114]⟩ : ByteArray) [.string (⟨#[98, 108, 117, 114]⟩ : ByteArray)] from rfl) (yaa (show Kd.M yab _ _ _ (⟨#[115, 105, 122, 101]⟩ : ByteArray) [.string (⟨#[115, 105, 122, 101]⟩ : ByteArray)] from rfl) (yaa (show Kd.M yab _ _ _ (⟨#[102, 108, 97, 116]⟩ : ByteArray) [.string (⟨#[102, 108, 97, 116]⟩ : ByteArray)] from rfl) (Reps.none _ _))))))))))); intro a8 w5 ho6 hb hg_ hnew_; clear hg_ hnew_; (first | rw [← Ny101.out] at ho6 | (simp only [Int.reduceToNat] at ho6; rw [← Ny101.out] at ho6)); have a1 := yac (Kd.R_lower ho6 (below_size (upH HB.out))); replace HB := yac (below_step (upH HB.out) hb); clear hb ho6) | ((with_reducible refine gd_ 7 rfl ?_); refine Kd.R_lit (Kd.int .i64) _ 3 ?hg (N := 7) ?hd (xs := ([0, 4, 0, 0, 0, 0, 0, 2, 3] : List Int)) (inner := [.int .i64 0, .int .i64 4, .int .i64 0, .int .i64 0, .int .i64 0, .int .i64 0, .int .i64 0, .int .i64 2, .int .i64 3]) (ok := fun _ => True) (okp := fun _ => True) ?hr ?hp (fun _ hk => hk) trivial (Below.refl _ _) (Nat.le_refl _) (by simp) ?_; (case hd => rfl); (case hg => rfl); (case hr => first | (go_simp; done) | (go_simp; rfl)); (case hp => exact (yaa (show Kd.M (Kd.int .i64) _ _ _ 0 [.int .i64 0] from rfl) (yaa (show Kd.M (Kd.int .i64) _ _ _ 4 [.int .i64 4] from rfl) (yaa (show Kd.M (Kd.int .i64) _ _ _ 0 [.int .i64 0] from rfl) (yaa (show Kd.M (Kd.int .i64) _ _ _ 0 [.int .i64 0] from rfl) (yaa (show Kd.M (Kd.int .i64) _ _ _ 0 [.int .i64 0] from rfl) (yaa (show Kd.M (Kd.int .i64) _ _ _ 0 [.int .i64 0] from rfl) (yaa (show Kd.M (Kd.int .i64) _ _ _ 0 [.int .i64 0] from rfl) (yaa (show Kd.M (Kd.int .i64) _ _ _ 2 [.int .i64 2] from rfl) (yaa (show Kd.M (Kd.int .i64) _ _ _ 3 [.int .i64 3] from rfl) (Reps.none _ _))))))))))); intro a9 w7 ho8 hb hg_ hnew_; clear hg_ hnew_; (first | rw [← Ny104.out] at ho8 | (simp only [Int.reduceToNat] at ho8; rw [← Ny104.out] at ho8)); replace a1 := yac (Kd.R_below (upR a1.out) hb); have a2 := yac (Kd.R_lower ho8 (below_size (upH HB.out))); replace HB := yac (below_step (upH HB.out) hb); clear hb ho8; obtain ⟨Ao9, co9, eo9⟩ := Kd.R_slice a1.out; subst eo9; have p107 : 0 ≤ (a0 : Int) := of_decide_eq_true (by assumption); have q107 : a0 < (y101.length : Int) := of_decide_eq_true (by assumption); obtain ⟨ad107, a5, a3⟩ := Kd.at_string (Kd.R_reads' a1.out).2.2 a0 p107 q107; cases a5; replace p107 := eq_true p107; replace q107 := eq_true q107; obtain ⟨b0, b1, a6⟩ := Kd.R_slice a2.out; subst a6; have p108 : 0 ≤ (a0 : Int) := of_decide_eq_true (by assumption); have q108 : a0 < (y104.length : Int) := of_decide_eq_true (by assumption); obtain ⟨ad108, a7, a4⟩ := Kd.at_int (Kd.R_reads' a2.out).2.2 a0 p108 q108; cases a7; replace p108 := eq_true p108; replace q108 := eq_true q108))
    repeat (go_quiet (first | ((with_reducible refine gd_ 6 rfl ?_); refine Kd.R_lit yab _ 9 ?hg (N := 6) ?hd (xs := ([(⟨#[]⟩ : ByteArray), (⟨#[99, 114, 111, 112]⟩ : ByteArray), (⟨#[102, 108, 105, 112, 120]⟩ : ByteArray), (⟨#[102, 108, 105, 112, 121]⟩ : ByteArray), (⟨#[116, 117, 114, 110]⟩ : ByteArray), (⟨#[103, 114, 97, 121]⟩ : ByteArray), (⟨#[98, 108, 117, 114]⟩ : ByteArray), (⟨#[115, 105, 122, 101]⟩ : ByteArray), (⟨#[102, 108, 97, 116]⟩ : ByteArray)] : List ByteArray)) (inner := [.string (⟨#[]⟩ : ByteArray), .string (⟨#[99, 114, 111, 112]⟩ : ByteArray), .string (⟨#[102, 108, 105, 112, 120]⟩ : ByteArray), .string (⟨#[102, 108, 105, 112, 121]⟩ : ByteArray), .string (⟨#[116, 117, 114, 110]⟩ : ByteArray), .string (⟨#[103, 114, 97, 121]⟩ : ByteArray), .string (⟨#[98, 108, 117, 114]⟩ : ByteArray), .string (⟨#[115, 105, 122, 101]⟩ : ByteArray), .string (⟨#[102, 108, 97, 116]⟩ : ByteArray)]) (ok := fun _ => True) (okp := fun _ => True) ?hr ?hp (fun _ hk => hk) trivial (Below.refl _ _) (Nat.le_refl _) (by simp) ?_; (case hd => rfl); (case hg => rfl); (case hr => first | (go_simp; done) | (go_simp; rfl)); (case hp => exact (yaa (show Kd.M yab _ _ _ (⟨#[]⟩ : ByteArray) [.string (⟨#[]⟩ : ByteArray)] from rfl) (yaa (show Kd.M yab _ _ _ (⟨#[99, 114, 111, 112]⟩ : ByteArray) [.string (⟨#[99, 114, 111, 112]⟩ : ByteArray)] from rfl) (yaa (show Kd.M yab _ _ _ (⟨#[102, 108, 105, 112, 120]⟩ : ByteArray) [.string (⟨#[102, 108, 105, 112, 120]⟩ : ByteArray)] from rfl) (yaa (show Kd.M yab _ _ _ (⟨#[102, 108, 105, 112, 121]⟩ : ByteArray) [.string (⟨#[102, 108, 105, 112, 121]⟩ : ByteArray)] from rfl) (yaa (show Kd.M yab _ _ _ (⟨#[116, 117, 114, 110]⟩ : ByteArray) [.string (⟨#[116, 117, 114, 110]⟩ : ByteArray)] from rfl) (yaa (show Kd.M yab _ _ _ (⟨#[103, 114, 97, 121]⟩ : ByteArray) [.string (⟨#[103, 114, 97, 121]⟩ : ByteArray)] from rfl) (yaa (show Kd.M yab _ _ _ (⟨#[98, 108, 117, 114]⟩ : ByteArray) [.string (⟨#[98, 108, 117, 114]⟩ : ByteArray)] from rfl) (yaa (show Kd.M yab _ _ _ (⟨#[115, 105, 122, 101]⟩ : ByteArray) [.string (⟨#[115, 105, 122, 101]⟩ : ByteArray)] from rfl) (yaa (show Kd.M yab _ _ _ (⟨#[102, 108, 97, 116]⟩ : ByteArray) [.string (⟨#[102, 108, 97, 116]⟩ : ByteArray)] from rfl) (Reps.none _ _))))))))))); intro a8 w5 ho6 hb hg_ hnew_; clear hg_ hnew_; (first | rw [← Ny101.out] at ho6 | (simp only [Int.reduceToNat] at ho6; rw [← Ny101.out] at ho6)); have a1 := yac (Kd.R_lower ho6 (below_size (upH HB.out))); replace HB := yac (below_step (upH HB.out) hb); clear hb ho6) | ((with_reducible refine gd_ 7 rfl ?_); refine Kd.R_lit (Kd.int .i64) _ 3 ?hg (N := 7) ?hd (xs := ([0, 4, 0, 0, 0, 0, 0, 2, 3] : List Int)) (inner := [.int .i64 0, .int .i64 4, .int .i64 0, .int .i64 0, .int .i64 0, .int .i64 0, .int .i64 0, .int .i64 2, .int .i64 3]) (ok := fun _ => True) (okp := fun _ => True) ?hr ?hp (fun _ hk => hk) trivial (Below.refl _ _) (Nat.le_refl _) (by simp) ?_; (case hd => rfl); (case hg => rfl); (case hr => first | (go_simp; done) | (go_simp; rfl)); (case hp => exact (yaa (show Kd.M (Kd.int .i64) _ _ _ 0 [.int .i64 0] from rfl) (yaa (show Kd.M (Kd.int .i64) _ _ _ 4 [.int .i64 4] from rfl) (yaa (show Kd.M (Kd.int .i64) _ _ _ 0 [.int .i64 0] from rfl) (yaa (show Kd.M (Kd.int .i64) _ _ _ 0 [.int .i64 0] from rfl) (yaa (show Kd.M (Kd.int .i64) _ _ _ 0 [.int .i64 0] from rfl) (yaa (show Kd.M (Kd.int .i64) _ _ _ 0 [.int .i64 0] from rfl) (yaa (show Kd.M (Kd.int .i64) _ _ _ 0 [.int .i64 0] from rfl) (yaa (show Kd.M (Kd.int .i64) _ _ _ 2 [.int .i64 2] from rfl) (yaa (show Kd.M (Kd.int .i64) _ _ _ 3 [.int .i64 3] from rfl) (Reps.none _ _))))))))))); intro a9 w7 ho8 hb hg_ hnew_; clear hg_ hnew_; (first | rw [← Ny104.out] at ho8 | (simp only [Int.reduceToNat] at ho8; rw [← Ny104.out] at ho8)); replace a1 := yac (Kd.R_below (upR a1.out) hb); have a2 := yac (Kd.R_lower ho8 (below_size (upH HB.out))); replace HB := yac (below_step (upH HB.out) hb); clear hb ho8; obtain ⟨Ao9, co9, eo9⟩ := Kd.R_slice a1.out; subst eo9; have p107 : 0 ≤ (a0 : Int) := of_decide_eq_true (by assumption); have q107 : a0 < (y101.length : Int) := of_decide_eq_true (by assumption); obtain ⟨ad107, a5, a3⟩ := Kd.at_string (Kd.R_reads' a1.out).2.2 a0 p107 q107; cases a5; replace p107 := eq_true p107; replace q107 := eq_true q107; obtain ⟨b0, b1, a6⟩ := Kd.R_slice a2.out; subst a6; have p108 : 0 ≤ (a0 : Int) := of_decide_eq_true (by assumption); have q108 : a0 < (y104.length : Int) := of_decide_eq_true (by assumption); obtain ⟨ad108, a7, a4⟩ := Kd.at_int (Kd.R_reads' a2.out).2.2 a0 p108 q108; cases a7; replace p108 := eq_true p108; replace q108 := eq_true q108)); try go_wp2_with (first | ((with_reducible refine gd_ 6 rfl ?_); refine Kd.R_lit yab _ 9 ?hg (N := 6) ?hd (xs := ([(⟨#[]⟩ : ByteArray), (⟨#[99, 114, 111, 112]⟩ : ByteArray), (⟨#[102, 108, 105, 112, 120]⟩ : ByteArray), (⟨#[102, 108, 105, 112, 121]⟩ : ByteArray), (⟨#[116, 117, 114, 110]⟩ : ByteArray), (⟨#[103, 114, 97, 121]⟩ : ByteArray), (⟨#[98, 108, 117, 114]⟩ : ByteArray), (⟨#[115, 105, 122, 101]⟩ : ByteArray), (⟨#[102, 108, 97, 116]⟩ : ByteArray)] : List ByteArray)) (inner := [.string (⟨#[]⟩ : ByteArray), .string (⟨#[99, 114, 111, 112]⟩ : ByteArray), .string (⟨#[102, 108, 105, 112, 120]⟩ : ByteArray), .string (⟨#[102, 108, 105, 112, 121]⟩ : ByteArray), .string (⟨#[116, 117, 114, 110]⟩ : ByteArray), .string (⟨#[103, 114, 97, 121]⟩ : ByteArray), .string (⟨#[98, 108, 117, 114]⟩ : ByteArray), .string (⟨#[115, 105, 122, 101]⟩ : ByteArray), .string (⟨#[102, 108, 97, 116]⟩ : ByteArray)]) (ok := fun _ => True) (okp := fun _ => True) ?hr ?hp (fun _ hk => hk) trivial (Below.refl _ _) (Nat.le_refl _) (by simp) ?_; (case hd => rfl); (case hg => rfl); (case hr => first | (go_simp; done) | (go_simp; rfl)); (case hp => exact (yaa (show Kd.M yab _ _ _ (⟨#[]⟩ : ByteArray) [.string (⟨#[]⟩ : ByteArray)] from rfl) (yaa (show Kd.M yab _ _ _ (⟨#[99, 114, 111, 112]⟩ : ByteArray) [.string (⟨#[99, 114, 111, 112]⟩ : ByteArray)] from rfl) (yaa (show Kd.M yab _ _ _ (⟨#[102, 108, 105, 112, 120]⟩ : ByteArray) [.string (⟨#[102, 108, 105, 112, 120]⟩ : ByteArray)] from rfl) (yaa (show Kd.M yab _ _ _ (⟨#[102, 108, 105, 112, 121]⟩ : ByteArray) [.string (⟨#[102, 108, 105, 112, 121]⟩ : ByteArray)] from rfl) (yaa (show Kd.M yab _ _ _ (⟨#[116, 117, 114, 110]⟩ : ByteArray) [.string (⟨#[116, 117, 114, 110]⟩ : ByteArray)] from rfl) (yaa (show Kd.M yab _ _ _ (⟨#[103, 114, 97, 121]⟩ : ByteArray) [.string (⟨#[103, 114, 97, 121]⟩ : ByteArray)] from rfl) (yaa (show Kd.M yab _ _ _ (⟨#[98, 108, 117, 114]⟩ : ByteArray) [.string (⟨#[98, 108, 117, 114]⟩ : ByteArray)] from rfl) (yaa (show Kd.M yab _ _ _ (⟨#[115, 105, 122, 101]⟩ : ByteArray) [.string (⟨#[115, 105, 122, 101]⟩ : ByteArray)] from rfl) (yaa (show Kd.M yab _ _ _ (⟨#[102, 108, 97, 116]⟩ : ByteArray) [.string (⟨#[102, 108, 97, 116]⟩ : ByteArray)] from rfl) (Reps.none _ _))))))))))); intro a8 w5 ho6 hb hg_ hnew_; clear hg_ hnew_; (first | rw [← Ny101.out] at ho6 | (simp only [Int.reduceToNat] at ho6; rw [← Ny101.out] at ho6)); have a1 := yac (Kd.R_lower ho6 (below_size (upH HB.out))); replace HB := yac (below_step (upH HB.out) hb); clear hb ho6) | ((with_reducible refine gd_ 7 rfl ?_); refine Kd.R_lit (Kd.int .i64) _ 3 ?hg (N := 7) ?hd (xs := ([0, 4, 0, 0, 0, 0, 0, 2, 3] : List Int)) (inner := [.int .i64 0, .int .i64 4, .int .i64 0, .int .i64 0, .int .i64 0, .int .i64 0, .int .i64 0, .int .i64 2, .int .i64 3]) (ok := fun _ => True) (okp := fun _ => True) ?hr ?hp (fun _ hk => hk) trivial (Below.refl _ _) (Nat.le_refl _) (by simp) ?_; (case hd => rfl); (case hg => rfl); (case hr => first | (go_simp; done) | (go_simp; rfl)); (case hp => exact (yaa (show Kd.M (Kd.int .i64) _ _ _ 0 [.int .i64 0] from rfl) (yaa (show Kd.M (Kd.int .i64) _ _ _ 4 [.int .i64 4] from rfl) (yaa (show Kd.M (Kd.int .i64) _ _ _ 0 [.int .i64 0] from rfl) (yaa (show Kd.M (Kd.int .i64) _ _ _ 0 [.int .i64 0] from rfl) (yaa (show Kd.M (Kd.int .i64) _ _ _ 0 [.int .i64 0] from rfl) (yaa (show Kd.M (Kd.int .i64) _ _ _ 0 [.int .i64 0] from rfl) (yaa (show Kd.M (Kd.int .i64) _ _ _ 0 [.int .i64 0] from rfl) (yaa (show Kd.M (Kd.int .i64) _ _ _ 2 [.int .i64 2] from rfl) (yaa (show Kd.M (Kd.int .i64) _ _ _ 3 [.int .i64 3] from rfl) (Reps.none _ _))))))))))); intro a9 w7 ho8 hb hg_ hnew_; clear hg_ hnew_; (first | rw [← Ny104.out] at ho8 | (simp only [Int.reduceToNat] at ho8; rw [← Ny104.out] at ho8)); replace a1 := yac (Kd.R_below (upR a1.out) hb); have a2 := yac (Kd.R_lower ho8 (below_size (upH HB.out))); replace HB := yac (below_step (upH HB.out) hb); clear hb ho8; obtain ⟨Ao9, co9, eo9⟩ := Kd.R_slice a1.out; subst eo9; have p107 : 0 ≤ (a0 : Int) := of_decide_eq_true (by assumption); have q107 : a0 < (y101.length : Int) := of_decide_eq_true (by assumption); obtain ⟨ad107, a5, a3⟩ := Kd.at_string (Kd.R_reads' a1.out).2.2 a0 p107 q107; cases a5; replace p107 := eq_true p107; replace q107 := eq_true q107; obtain ⟨b0, b1, a6⟩ := Kd.R_slice a2.out; subst a6; have p108 : 0 ≤ (a0 : Int) := of_decide_eq_true (by assumption); have q108 : a0 < (y104.length : Int) := of_decide_eq_true (by assumption); obtain ⟨ad108, a7, a4⟩ := Kd.at_int (Kd.R_reads' a2.out).2.2 a0 p108 q108; cases a7; replace p108 := eq_true p108; replace q108 := eq_true q108)))
    go_ret2
    exact ⟨by first | rfl | (simp [*, errW_none, errW_some] <;> rfl), upH HB.out⟩
   ·
    rw [if_neg c4] at H
    exact absurd H (by simp)
  ·
   rw [if_neg c3] at H
   exact absurd H (by simp)
 ·
  rw [if_neg c2] at H
  exact absurd H (by simp)
end
section
open Go.Proofs.YtfafjpfigphchaaDoorW.PrintWords.Aside0 renaming mk → yaa
open Go.Proofs.YtfafjpfigphchaaDoorW.PrintWords renaming pw_below_drewN → yab

def spec_OpText.l0 : Nat → ByteArray → Int → List Int → Int → Option (ByteArray)
 | 0, _, _, _, _ => none
 | k + 1, x3, x4, x5, x6 => if x6 < x4 then (if x3.size + 1 ≤ 9223372036854775807 then (if 0 ≤ x6 then (if x6 < (x5.length : Int) then ((spec_l7Plain.f k (rd x5 x6)).bind fun t109 => (if (x3 ++ (⟨#[46]⟩ : ByteArray)).size + t109.size ≤ 9223372036854775807 then (spec_OpText.l0 k ((x3 ++ (⟨#[46]⟩ : ByteArray)) ++ t109) x4 x5 (wrap64 (x6 + 1))) else (none))) else (none)) else (none)) else (none)) else (some x3)
def spec_OpText.f (k : Nat) (a0_0 : Int) (a0_1 : Int) (a0_2 : Int) (a0_3 : Int) (a0_4 : Int) : Option (ByteArray) := (spec_OpOk.f a0_0 a0_1 a0_2 a0_3 a0_4).bind fun t102 => (if t102 = true then ((spec_l7Word.f a0_0).bind fun bt103 => (spec_OpText.l0 k bt103.1 bt103.2 (([a0_1, a0_2, a0_3, a0_4] : List Int)) 0)) else (some (⟨#[]⟩ : ByteArray)))
set_option maxHeartbeats 8000000 in
set_option maxRecDepth 100000 in
theorem spec_OpText.calls (k : Nat) (a0_0 : Int) (a0_1 : Int) (a0_2 : Int) (a0_3 : Int) (a0_4 : Int) (r : ByteArray) (w : World) (h : spec_OpText.f k a0_0 a0_1 a0_2 a0_3 a0_4 = some r) :
  Calls Tryd.prog 13 #[.agg #[.int .i64 a0_0, .int .i64 a0_1, .int .i64 a0_2, .int .i64 a0_3, .int .i64 a0_4]] w fun e w' => e = .returned (.string r) ∧ Below w.heap.size w w' := by
 have hu23 := Tryd.underlying23; have HB := yaa (Below.refl w.heap.size w); have H : ((spec_OpOk.f a0_0 a0_1 a0_2 a0_3 a0_4).bind fun d0 => (if d0 = true then ((spec_l7Word.f a0_0).bind fun c8 => (spec_OpText.l0 k c8.1 c8.2 (([a0_1, a0_2, a0_3, a0_4] : List Int)) 0)) else (some (⟨#[]⟩ : ByteArray)))) = some r := h; clear h; obtain ⟨d0, A2, H⟩ := bindA H; (try dsimp only at H)
 by_cases c3 : d0 = true
 ·
  subst c3
  rw [if_pos rfl] at H
  obtain ⟨⟨d1, a9⟩, A4, H⟩ := bindA H; (try dsimp only at H); obtain ⟨y105, hy105⟩ : ∃ y_ : List Int, y_ = (([a0_1, a0_2, a0_3, a0_4] : List Int)) := ⟨_, rfl⟩
  replace H : (spec_OpText.l0 k d1 a9 y105 0) = some r := by first | (rw [hy105]; with_reducible exact H) | (have H2_ := (Option.bind_some _ _).symm.trans H; rw [hy105]; with_reducible exact H2_) | (have H2_ := (Option.bind_some _ _).symm.trans H; with_reducible exact H2_) | with_reducible exact H | (rw [hy105]; exact H) | exact H
  have Ny105 := yaa hy105; clear hy105; have H' := yaa H; clear H
  go_enter Tryd.func13, Tryd.ntmps13
  go_wp2_with (first | ((with_reducible refine gd_ 1 rfl ?_); refine bx_ 1 rfl #[.int .i64 a0_0, .int .i64 a0_1, .int .i64 a0_2, .int .i64 a0_3, .int .i64 a0_4] 23 ?_; intro a8 hg w5 hbox hb; have a5 := yaa (hbox); have b1 := yaa ((by rw [hg]; exact (below_size (upH HB.out)) : w.heap.size ≤ a8)); replace HB := yaa (below_step (upH HB.out) hb); have f4 := b1; clear hb hbox hg; obtain ⟨d2, d3, d4, d5, d6⟩ := cc5_ a5.out; obtain ⟨d8, d9, e0, e1⟩ := cf4_ a5.out; have e3 := blk_frozen a5.out 4) | ((with_reducible refine gc_ 15 rfl ?_); refine gl_ (some 8) rfl Tryd.func15 #[.agg #[.int .i64 a0_0, .int .i64 a0_1, .int .i64 a0_2, .int .i64 a0_3, .int .i64 a0_4]] ?_; (with_reducible refine (spec_OpOk.calls a0_0 a0_1 a0_2 a0_3 a0_4 true _ A2.out).mono ?_); rintro e w7 ⟨rfl, hb⟩; refine ⟨_, rfl, ?_⟩; replace a5 := yaa (blk_below (upB a5.out) hb); replace HB := yaa (below_step (by repeat (with_reducible first | exact HB.out | apply below_alloc | apply yab | apply below_drew1 | refine below_set ?_ (Aside0.out ‹_›))) hb); (try clear hb); obtain ⟨e4, e5, e6, e7, e8⟩ := cc5_ a5.out; obtain ⟨e9, f0, f1, f2⟩ := cf4_ a5.out; have f3 := blk_frozen a5.out 4) | ((with_reducible refine gc_ 41 rfl ?_); refine gl_ (some 13) rfl Tryd.func41 #[.int .i64 a0_0] ?_; (with_reducible refine (spec_l7Word.calls a0_0 d1 a9 _ A4.out).mono ?_); rintro e w9 ⟨rfl, hb⟩; refine ⟨_, rfl, ?_⟩; replace a5 := yaa (blk_below (upB a5.out) hb); replace HB := yaa (below_step (by repeat (with_reducible first | exact HB.out | apply below_alloc | apply yab | apply below_drew1 | refine below_set ?_ (Aside0.out ‹_›))) hb); (try clear hb); obtain ⟨b5, b6, b7, b8, b9⟩ := cc5_ a5.out; obtain ⟨c0, c2, c5, c6⟩ := cf4_ a5.out; have c7 := blk_frozen a5.out 4) | ((with_reducible refine gd_ 24 rfl ?_); refine Kd.R_lit (Kd.int .i64) _ 3 ?hg (N := 24) ?hd (xs := ([a0_1, a0_2, a0_3, a0_4] : List Int)) (inner := [.int .i64 a0_1, .int .i64 a0_2, .int .i64 a0_3, .int .i64 a0_4]) (ok := fun _ => True) (okp := fun _ => True) ?hr ?hp (fun _ hk => hk) trivial (Below.refl _ _) (Nat.le_refl _) (by simp) ?_; (case hd => rfl); (case hg => rfl); (case hr => first | (go_simp; done) | (go_simp; rfl)); (case hp => exact (Reps.one (show Kd.M (Kd.int .i64) _ _ _ a0_1 [.int .i64 a0_1] from rfl) (Reps.one (show Kd.M (Kd.int .i64) _ _ _ a0_2 [.int .i64 a0_2] from rfl) (Reps.one (show Kd.M (Kd.int .i64) _ _ _ a0_3 [.int .i64 a0_3] from rfl) (Reps.one (show Kd.M (Kd.int .i64) _ _ _ a0_4 [.int .i64 a0_4] from rfl) (Reps.none _ _)))))); intro g7 w11 b2 hb hg_ hnew_; clear hg_ hnew_; (first | rw [← Ny105.out] at b2 | (simp only [Int.reduceToNat] at b2; rw [← Ny105.out] at b2)); have c9 := yaa (Kd.R_lower b2 (below_size (by repeat (with_reducible first | exact HB.out | apply below_alloc | apply yab | apply below_drew1 | refine below_set ?_ (Aside0.out ‹_›))))); replace a5 := yaa (blk_below (upB a5.out) hb); replace HB := yaa (below_step (by repeat (with_reducible first | exact HB.out | apply below_alloc | apply yab | apply below_drew1 | refine below_set ?_ (Aside0.out ‹_›))) hb); clear hb b2))
  (try simp only [Act.put, List.setIfInBounds_toArray, List.set_cons_zero, List.set_cons_succ])
  go_loopg [3, 6] k (fun kq v3 v6 w' => ∃ (a7 : ByteArray) (a6 : Int), v3 = .string a7 ∧ v6 = .int .i64 a6 ∧ Aside0 (spec_OpText.l0 kq a7 a9 y105 a6 = some r) ∧ Aside0 (kq ≤ k) ∧ Aside0 (Kd.R (Kd.int .i64) 3 w' w.heap.size (fun _ => True) g7 y105) ∧ Aside0 (w'.heap[a8]? = some (.cells #[.int .i64 a0_0, .int .i64 a0_1, .int .i64 a0_2, .int .i64 a0_3, .int .i64 a0_4] 23 (0, 0))) ∧ Aside0 (Below w.heap.size w w'))
  case atStart => exact ⟨(d1), (0), (by first | rfl | (simp; done) | (simp [*]; done)), (by first | rfl | (simp; done) | (simp [*]; done)), H', ⟨Nat.le_refl _⟩, ⟨by first | exact c9.out | exact upR c9.out⟩, ⟨by exact upB a5.out⟩, ⟨by repeat (with_reducible first | exact HB.out | apply below_alloc | apply yab | apply below_drew1 | refine below_set ?_ (Aside0.out ‹_›))⟩⟩
  case round =>
   clear H'; (try clear c1); (try clear p2); (try clear c3); (try clear c4); (try clear b5); (try clear b6); (try clear b7); (try clear b8); (try clear b9); (try clear d2); (try clear d3); (try clear d4); (try clear d5); (try clear d6); (try clear e4); (try clear e5); (try clear e6); (try clear e7); (try clear e8); (try clear c0); (try clear c2); (try clear c5); (try clear c6); (try clear c7); (try clear d8); (try clear d9); (try clear e0); (try clear e1); (try clear e3); (try clear e9); (try clear f0); (try clear f1); (try clear f2); (try clear f3); obtain ⟨a7, a6, rfl, rfl, HA, HK1, b0, a5, HB⟩ := hrel
   cases gk with
   | zero => exact absurd HA.out (by simp [spec_OpText.l0])
   | succ k1 =>
    have H := HA.out; clear HA
    simp only [spec_OpText.l0] at H
    by_cases c13 : a6 < a9
    ·
     rw [if_pos c13] at H
     have f5 : decide (a6 < a9) = true := decide_eq_true c13; clear c13
     by_cases c14 : a7.size + 1 ≤ 9223372036854775807
     ·
      rw [if_pos c14] at H
      have h0 := eq_true c14; have h1 : decide (a7.size + 1 ≤ 9223372036854775807) = true := decide_eq_true c14
      try have h2 : (9223372036854775807 < a7.size + 1) = False := eq_false (Nat.not_lt.2 c14)
      by_cases c15 : 0 ≤ a6
      ·
       rw [if_pos c15] at H
       replace c15 := decide_eq_true c15
       by_cases c16 : a6 < (y105.length : Int)
       ·
        rw [if_pos c16] at H
        replace c16 := decide_eq_true c16; obtain ⟨b3, A17, H⟩ := bindA H; (try dsimp only at H)
        by_cases c18 : (a7 ++ (⟨#[46]⟩ : ByteArray)).size + b3.size ≤ 9223372036854775807
        ·
         rw [if_pos c18] at H
         have h3 := eq_true c18; have h4 : decide ((a7 ++ (⟨#[46]⟩ : ByteArray)).size + b3.size ≤ 9223372036854775807) = true := decide_eq_true c18
         try have h5 : (9223372036854775807 < (a7 ++ (⟨#[46]⟩ : ByteArray)).size + b3.size) = False := eq_false (Nat.not_lt.2 c18)
         try (have b4 := c18; simp only [ByteArray.size_append', ByteArray.size_mk', List.size_toArray, List.length_cons, List.length_nil, Nat.zero_add, Nat.reduceAdd] at b4; replace b4 := eq_false (Nat.not_lt.2 b4))
         have H' := yaa H; clear H; obtain ⟨h6, h7, g8⟩ := Kd.R_slice b0.out; subst g8; have p108 : 0 ≤ (a6 : Int) := of_decide_eq_true (by assumption); have q108 : a6 < (y105.length : Int) := of_decide_eq_true (by assumption); obtain ⟨ad108, g9, f6⟩ := Kd.at_int (Kd.R_reads' b0.out).2.2 a6 p108 q108
         cases g9
         replace p108 := eq_true p108; replace q108 := eq_true q108
         go_wp2_with (first | ((with_reducible refine gc_ 42 rfl ?_); refine gl_ (some 36) rfl Tryd.func42 #[.int .i64 (rd y105 a6)] ?_; (with_reducible refine (spec_l7Plain.calls k1 (rd y105 a6) b3 _ A17.out).mono ?_); rintro e w20 ⟨rfl, hb⟩; refine ⟨_, rfl, ?_⟩; replace b0 := yaa (Kd.R_below (upR b0.out) hb); replace a5 := yaa (blk_below (upB a5.out) hb); replace HB := yaa (below_step (by repeat (with_reducible first | exact HB.out | apply below_alloc | apply yab | apply below_drew1 | refine below_set ?_ (Aside0.out ‹_›))) hb); (try clear hb)))
         go_roundg k1
         case measure => have := HK1.out; omega
         case rel => exact ⟨((a7 ++ (⟨#[46]⟩ : ByteArray)) ++ b3), (wrap64 (a6 + 1)), (by first | rfl | (simp; done) | (simp [*]; done)), (by first | rfl | (simp; done) | (simp [*]; done)), H', ⟨by have := HK1.out; omega⟩, ⟨by first | exact b0.out | exact upR b0.out⟩, ⟨by exact upB a5.out⟩, ⟨by repeat (with_reducible first | exact HB.out | apply below_alloc | apply yab | apply below_drew1 | refine below_set ?_ (Aside0.out ‹_›))⟩⟩
        ·
         rw [if_neg c18] at H
         exact absurd H (by simp)
       ·
        rw [if_neg c16] at H
        exact absurd H (by simp)
      ·
       rw [if_neg c15] at H
       exact absurd H (by simp)
     ·
      rw [if_neg c14] at H
      exact absurd H (by simp)
    ·
     rw [if_neg c13] at H
     have f5 : decide (a6 < a9) = false := decide_eq_false c13; clear c13; obtain rfl := Option.some.inj H
     go_wp2
     go_ret
     exact ⟨by first | rfl | (simp [*, errW_none, errW_some] <;> rfl), by repeat (with_reducible first | exact HB.out | apply below_alloc | apply yab | apply below_drew1 | refine below_set ?_ (Aside0.out ‹_›))⟩
 ·
  replace c3 := Bool.eq_false_iff.mpr c3
  subst c3
  rw [if_neg (show ¬ (false = true) by decide)] at H
  obtain rfl := Option.some.inj H
  go_enter Tryd.func13, Tryd.ntmps13
  go_wp2_with (first | ((with_reducible refine gd_ 1 rfl ?_); refine bx_ 1 rfl #[.int .i64 a0_0, .int .i64 a0_1, .int .i64 a0_2, .int .i64 a0_3, .int .i64 a0_4] 23 ?_; intro a8 hg w21 hbox hb; have a5 := yaa (hbox); have b1 := yaa ((by rw [hg]; exact (below_size (upH HB.out)) : w.heap.size ≤ a8)); replace HB := yaa (below_step (upH HB.out) hb); have f4 := b1; clear hb hbox hg; obtain ⟨f7, f8, f9, g0, g1⟩ := cc5_ a5.out; obtain ⟨g2, g3, g4, g5⟩ := cf4_ a5.out; have g6 := blk_frozen a5.out 4) | ((with_reducible refine gc_ 15 rfl ?_); refine gl_ (some 8) rfl Tryd.func15 #[.agg #[.int .i64 a0_0, .int .i64 a0_1, .int .i64 a0_2, .int .i64 a0_3, .int .i64 a0_4]] ?_; (with_reducible refine (spec_OpOk.calls a0_0 a0_1 a0_2 a0_3 a0_4 false _ A2.out).mono ?_); rintro e w23 ⟨rfl, hb⟩; refine ⟨_, rfl, ?_⟩; replace a5 := yaa (blk_below (upB a5.out) hb); replace HB := yaa (below_step (by repeat (with_reducible first | exact HB.out | apply below_alloc | apply yab | apply below_drew1 | refine below_set ?_ (Aside0.out ‹_›))) hb); (try clear hb)))
  go_ret
  exact ⟨by first | rfl | (simp [*, errW_none, errW_some] <;> rfl), by repeat (with_reducible first | exact HB.out | apply below_alloc | apply yab | apply below_drew1 | refine below_set ?_ (Aside0.out ‹_›))⟩
end
section
def spec_l7Ops.l0 : Nat → List (S23) → ByteArray → Int → Option (ByteArray)
 | 0, _, _, _ => none
 | k + 1, x0, x3, x4 => if x4 < (x0.length : Int) then (if x4 > 0 then (if x3.size + 1 ≤ 9223372036854775807 then (if 0 ≤ x4 then ((spec_OpText.f k ((rd_T23 x0 x4).f0) ((rd_T23 x0 x4).f1) ((rd_T23 x0 x4).f2) ((rd_T23 x0 x4).f3) ((rd_T23 x0 x4).f4)).bind fun t102 => (if (x3 ++ (⟨#[44]⟩ : ByteArray)).size + t102.size ≤ 9223372036854775807 then (spec_l7Ops.l0 k x0 ((x3 ++ (⟨#[44]⟩ : ByteArray)) ++ t102) (wrap64 (x4 + 1))) else (none))) else (none)) else (none)) else (if 0 ≤ x4 then ((spec_OpText.f k ((rd_T23 x0 x4).f0) ((rd_T23 x0 x4).f1) ((rd_T23 x0 x4).f2) ((rd_T23 x0 x4).f3) ((rd_T23 x0 x4).f4)).bind fun t104 => (if x3.size + t104.size ≤ 9223372036854775807 then (spec_l7Ops.l0 k x0 (x3 ++ t104) (wrap64 (x4 + 1))) else (none))) else (none))) else (some x3)
def spec_l7Ops.f (k : Nat) (l0 : List (S23)) : Option (ByteArray) := if (l0.length : Int) = 0 then (some (⟨#[45]⟩ : ByteArray)) else (spec_l7Ops.l0 k l0 (⟨#[]⟩ : ByteArray) 0)
set_option maxHeartbeats 8000000 in
set_option maxRecDepth 100000 in
theorem spec_l7Ops.calls (k : Nat) (A0 : Option Addr) (c0 : Nat) (l0 : List (S23)) (r : ByteArray) (w : World) (hr0 : Kd.C k23 w A0 l0.length l0) (hc0 : l0.length ≤ c0) (h : spec_l7Ops.f k l0 = some r) :
  Calls Tryd.prog 59 #[.slice A0 l0.length c0] w fun e w' => e = .returned (.string r) ∧ Below w.heap.size w w' := by
 have hu23 := Tryd.underlying23; have HR0 := Aside0.mk hr0; have HC0 := Aside0.mk hc0; clear hr0 hc0; have HB := Aside0.mk (Below.refl w.heap.size w); have H : (if (l0.length : Int) = 0 then (some (⟨#[45]⟩ : ByteArray)) else (spec_l7Ops.l0 k l0 (⟨#[]⟩ : ByteArray) 0)) = some r := h; clear h
 by_cases c2 : (l0.length : Int) = 0
 ·
  rw [if_pos c2] at H
  have b6 := beq_iff_eq.mpr c2; have b7 := bne_eq_false_iff_eq.mpr c2; clear c2; obtain rfl := Option.some.inj H
  go_enter Tryd.func59, Tryd.ntmps59
  go_wp2
  go_ret
  exact ⟨by first | rfl | (simp [*, errW_none, errW_some] <;> rfl), upH HB.out⟩
 ·
  rw [if_neg c2] at H
  have b6 := beq_eq_false_iff_ne.mpr c2; have b7 := bne_iff_ne.mpr c2; have b8 : ¬ (l0 = []) := fun h_ => c2 (by rw [h_]; rfl); have H' := Aside0.mk H; clear H
  go_enter Tryd.func59, Tryd.ntmps59
  go_wp2
  (try simp only [Act.put, List.setIfInBounds_toArray, List.set_cons_zero, List.set_cons_succ])
  go_loopg [3, 4] k (fun kq v3 v4 w' => ∃ (a2 : ByteArray) (a1 : Int), v3 = .string a2 ∧ v4 = .int .i64 a1 ∧ Aside0 (spec_l7Ops.l0 kq l0 a2 a1 = some r) ∧ Aside0 (kq ≤ k) ∧ Aside0 (Below w.heap.size w w'))
  case atStart => exact ⟨((⟨#[]⟩ : ByteArray)), (0), (by first | rfl | (simp; done) | (simp [*]; done)), (by first | rfl | (simp; done) | (simp [*]; done)), H', ⟨Nat.le_refl _⟩, ⟨upH HB.out⟩⟩
  case round =>
   clear H'; (try clear c2); (try clear b6); (try clear b7); (try clear b8); (try clear p2); obtain ⟨a2, a1, rfl, rfl, HA, HK1, HB⟩ := hrel
   cases gk with
   | zero => exact absurd HA.out (by simp [spec_l7Ops.l0])
   | succ k1 =>
    have H := HA.out; clear HA
    simp only [spec_l7Ops.l0] at H
    by_cases c3 : a1 < (l0.length : Int)
    ·
     rw [if_pos c3] at H
     have b9 : decide (a1 < (l0.length : Int)) = true := decide_eq_true c3; clear c3
     by_cases c4 : a1 > 0
     ·
      rw [if_pos c4] at H
      have c1 : decide (0 < a1) = true := decide_eq_true c4; clear c4
      by_cases c5 : a2.size + 1 ≤ 9223372036854775807
      ·
       rw [if_pos c5] at H
       have d3 := eq_true c5; have d4 : decide (a2.size + 1 ≤ 9223372036854775807) = true := decide_eq_true c5
       try have d5 : (9223372036854775807 < a2.size + 1) = False := eq_false (Nat.not_lt.2 c5)
       by_cases c6 : 0 ≤ a1
       ·
        rw [if_pos c6] at H
        replace c6 := decide_eq_true c6; obtain ⟨b3, A7, H⟩ := bindA H; (try dsimp only at H)
        by_cases c8 : (a2 ++ (⟨#[44]⟩ : ByteArray)).size + b3.size ≤ 9223372036854775807
        ·
         rw [if_pos c8] at H
         have d6 := eq_true c8; have d7 : decide ((a2 ++ (⟨#[44]⟩ : ByteArray)).size + b3.size ≤ 9223372036854775807) = true := decide_eq_true c8
         try have d8 : (9223372036854775807 < (a2 ++ (⟨#[44]⟩ : ByteArray)).size + b3.size) = False := eq_false (Nat.not_lt.2 c8)
         try (have b5 := c8; simp only [ByteArray.size_append', ByteArray.size_mk', List.size_toArray, List.length_cons, List.length_nil, Nat.zero_add, Nat.reduceAdd] at b5; replace b5 := eq_false (Nat.not_lt.2 b5))
         have H' := Aside0.mk H; clear H; have p101 : 0 ≤ (a1 : Int) := of_decide_eq_true (by assumption); have q101 : a1 < (l0.length : Int) := of_decide_eq_true (by assumption); obtain ⟨ad101, c7, a3, a4, a5, a6, a7⟩ := at_T23 HR0.out a1 p101 q101
         cases c7
         replace a3 := (upc_ HB.out a3 :); replace a4 := (upc_ HB.out a4 :); replace a5 := (upc_ HB.out a5 :); replace a6 := (upc_ HB.out a6 :); replace a7 := (upc_ HB.out a7 :); replace p101 := eq_true p101; replace q101 := eq_true q101
         go_wp2_with (first | ((with_reducible refine gc_ 13 rfl ?_); refine gl_ (some 23) rfl Tryd.func13 #[.agg #[.int .i64 ((rd_T23 l0 a1).f0), .int .i64 ((rd_T23 l0 a1).f1), .int .i64 ((rd_T23 l0 a1).f2), .int .i64 ((rd_T23 l0 a1).f3), .int .i64 ((rd_T23 l0 a1).f4)]] ?_; (with_reducible refine (spec_OpText.calls k1 ((rd_T23 l0 a1).f0) ((rd_T23 l0 a1).f1) ((rd_T23 l0 a1).f2) ((rd_T23 l0 a1).f3) ((rd_T23 l0 a1).f4) b3 _ A7.out).mono ?_); rintro e w9 ⟨rfl, hb⟩; refine ⟨_, rfl, ?_⟩; replace HB := Aside0.mk (below_step (upH HB.out) hb); (try clear hb)))
         go_roundg k1
         case measure => have := HK1.out; omega
         case rel => exact ⟨((a2 ++ (⟨#[44]⟩ : ByteArray)) ++ b3), (wrap64 (a1 + 1)), (by first | rfl | (simp; done) | (simp [*]; done)), (by first | rfl | (simp; done) | (simp [*]; done)), H', ⟨by have := HK1.out; omega⟩, ⟨upH HB.out⟩⟩
        ·
         rw [if_neg c8] at H
         exact absurd H (by simp)
       ·
        rw [if_neg c6] at H
        exact absurd H (by simp)
      ·
       rw [if_neg c5] at H
       exact absurd H (by simp)
     ·
      rw [if_neg c4] at H
      have c1 : decide (0 < a1) = false := decide_eq_false c4; clear c4
      by_cases c10 : 0 ≤ a1
      ·
       rw [if_pos c10] at H
       replace c10 := decide_eq_true c10; obtain ⟨b4, A11, H⟩ := bindA H; (try dsimp only at H)
       by_cases c12 : a2.size + b4.size ≤ 9223372036854775807
       ·
        rw [if_pos c12] at H
        have d0 := eq_true c12; have d1 : decide (a2.size + b4.size ≤ 9223372036854775807) = true := decide_eq_true c12
        try have d2 : (9223372036854775807 < a2.size + b4.size) = False := eq_false (Nat.not_lt.2 c12)
        have H' := Aside0.mk H; clear H; have p103 : 0 ≤ (a1 : Int) := of_decide_eq_true (by assumption); have q103 : a1 < (l0.length : Int) := of_decide_eq_true (by assumption); obtain ⟨ad103, c9, a8, a9, b0, b1, b2⟩ := at_T23 HR0.out a1 p103 q103
        cases c9
        replace a8 := (upc_ HB.out a8 :); replace a9 := (upc_ HB.out a9 :); replace b0 := (upc_ HB.out b0 :); replace b1 := (upc_ HB.out b1 :); replace b2 := (upc_ HB.out b2 :); replace p103 := eq_true p103; replace q103 := eq_true q103
        go_wp2_with (first | ((with_reducible refine gc_ 13 rfl ?_); refine gl_ (some 23) rfl Tryd.func13 #[.agg #[.int .i64 ((rd_T23 l0 a1).f0), .int .i64 ((rd_T23 l0 a1).f1), .int .i64 ((rd_T23 l0 a1).f2), .int .i64 ((rd_T23 l0 a1).f3), .int .i64 ((rd_T23 l0 a1).f4)]] ?_; (with_reducible refine (spec_OpText.calls k1 ((rd_T23 l0 a1).f0) ((rd_T23 l0 a1).f1) ((rd_T23 l0 a1).f2) ((rd_T23 l0 a1).f3) ((rd_T23 l0 a1).f4) b4 _ A11.out).mono ?_); rintro e w13 ⟨rfl, hb⟩; refine ⟨_, rfl, ?_⟩; replace HB := Aside0.mk (below_step (upH HB.out) hb); (try clear hb)))
        go_roundg k1
        case measure => have := HK1.out; omega
        case rel => exact ⟨(a2 ++ b4), (wrap64 (a1 + 1)), (by first | rfl | (simp; done) | (simp [*]; done)), (by first | rfl | (simp; done) | (simp [*]; done)), H', ⟨by have := HK1.out; omega⟩, ⟨upH HB.out⟩⟩
       ·
        rw [if_neg c12] at H
        exact absurd H (by simp)
      ·
       rw [if_neg c10] at H
       exact absurd H (by simp)
    ·
     rw [if_neg c3] at H
     have b9 : decide (a1 < (l0.length : Int)) = false := decide_eq_false c3; clear c3; obtain rfl := Option.some.inj H
     go_wp2
     go_ret
     exact ⟨by first | rfl | (simp [*, errW_none, errW_some] <;> rfl), upH HB.out⟩
end
section
open Go.Proofs.YtfafjpfigphchaaDoorW.PrintWords.Aside0 renaming mk → yaa

abbrev q25_0 : Array Bool := Array.replicate 14 false
abbrev q25_1 : Array Bool := bl_ 14 1
abbrev q25_2 : Array Bool := bl_ 14 33
abbrev q25_3 : Array Bool := bl_ 14 545
abbrev q25_4 : Array Bool := bl_ 14 547
abbrev q25_5 : Array Bool := bl_ 14 611
abbrev q25_6 : Array Bool := bl_ 14 1635
abbrev q25_7 : Array Bool := bl_ 14 1639
abbrev q25_8 : Array Bool := bl_ 14 1647
abbrev q25_9 : Array Bool := bl_ 14 1663
abbrev q25_10 : Array Bool := bl_ 14 1791
abbrev q25_11 : Array Bool := bl_ 14 2047
abbrev q25_12 : Array Bool := bl_ 14 4095
abbrev q25_13 : Array Bool := bl_ 14 8191
abbrev q25_14 : Array Bool := bl_ 14 16383
def spec_AskText.f (k : Nat) (l0_0 : List (S23)) (a0_1 : ByteArray) (a0_2 : Int) : Option (ByteArray) := (spec_AskOk.f k l0_0 a0_1 a0_2).bind fun t102 => (if t102 = true then ((spec_l7Ops.f k l0_0).bind fun t103 => (if 1 + t103.size ≤ 9223372036854775807 then (if ((⟨#[47]⟩ : ByteArray) ++ t103).size + 1 ≤ 9223372036854775807 then (if (((⟨#[47]⟩ : ByteArray) ++ t103) ++ (⟨#[47]⟩ : ByteArray)).size + a0_1.size ≤ 9223372036854775807 then (if ((((⟨#[47]⟩ : ByteArray) ++ t103) ++ (⟨#[47]⟩ : ByteArray)) ++ a0_1).size + 3 ≤ 9223372036854775807 then ((spec_l7Plain.f k a0_2).bind fun t104 => (if (((((⟨#[47]⟩ : ByteArray) ++ t103) ++ (⟨#[47]⟩ : ByteArray)) ++ a0_1) ++ (⟨#[63, 101, 61]⟩ : ByteArray)).size + t104.size ≤ 9223372036854775807 then (some ((((((⟨#[47]⟩ : ByteArray) ++ t103) ++ (⟨#[47]⟩ : ByteArray)) ++ a0_1) ++ (⟨#[63, 101, 61]⟩ : ByteArray)) ++ t104)) else (none))) else (none)) else (none)) else (none)) else (none))) else (some (⟨#[]⟩ : ByteArray)))
def spec_AskText.T3 : Bool × List (List Nat × List Nat) := (true, [([], []), ([0], [0]), ([1], [1]), ([2], [2]), ([3], [3]), ([], []), ([5], [5]), ([4, 6], [4, 6]), ([7], [7]), ([], []), ([9], [9]), ([10, 2], [10]), ([8, 11], [8, 11]), ([12, 11, 0, 1, 2, 3, 4, 5, 6, 7, 8, 9, 10, 11, 12], [12])])
def spec_AskText.B3 : List Nat := [0, 1, 3, 7, 15, 0, 32, 127, 255, 0, 512, 1543, 4095, 8191]
theorem spec_AskText.tab3 : rtab .any (opsOf Tryd.f25 3) = spec_AskText.T3 := by kernel_rfl
theorem spec_AskText.bits3 : waitsOk spec_AskText.T3.2 spec_AskText.B3 = true := by kernel_rfl
set_option maxHeartbeats 8000000 in
set_option maxRecDepth 100000 in
theorem spec_AskText.calls (k : Nat) (A0_0 : Option Addr) (c0_0 : Nat) (l0_0 : List (S23)) (a0_1 : ByteArray) (a0_2 : Int) (r : ByteArray) (w : World) (hr0_0 : Kd.C k23 w A0_0 l0_0.length l0_0) (hc0_0 : l0_0.length ≤ c0_0) (h : spec_AskText.f k l0_0 a0_1 a0_2 = some r) :
  Calls Tryd.prog 25 #[.agg #[.slice A0_0 l0_0.length c0_0, .string a0_1, .int .i64 a0_2]] w fun e w' => e = .returned (.string r) ∧ Below w.heap.size w w' := by
 have hu37 := Tryd.underlying37; have HR0_0 := yaa hr0_0; have HC0_0 := yaa hc0_0; clear hr0_0 hc0_0; have HB := yaa (Below.refl w.heap.size w); have H : ((spec_AskOk.f k l0_0 a0_1 a0_2).bind fun a9 => (if a9 = true then ((spec_l7Ops.f k l0_0).bind fun a4 => (if 1 + a4.size ≤ 9223372036854775807 then (if ((⟨#[47]⟩ : ByteArray) ++ a4).size + 1 ≤ 9223372036854775807 then (if (((⟨#[47]⟩ : ByteArray) ++ a4) ++ (⟨#[47]⟩ : ByteArray)).size + a0_1.size ≤ 9223372036854775807 then (if ((((⟨#[47]⟩ : ByteArray) ++ a4) ++ (⟨#[47]⟩ : ByteArray)) ++ a0_1).size + 3 ≤ 9223372036854775807 then ((spec_l7Plain.f k a0_2).bind fun a6 => (if (((((⟨#[47]⟩ : ByteArray) ++ a4) ++ (⟨#[47]⟩ : ByteArray)) ++ a0_1) ++ (⟨#[63, 101, 61]⟩ : ByteArray)).size + a6.size ≤ 9223372036854775807 then (some ((((((⟨#[47]⟩ : ByteArray) ++ a4) ++ (⟨#[47]⟩ : ByteArray)) ++ a0_1) ++ (⟨#[63, 101, 61]⟩ : ByteArray)) ++ a6)) else (none))) else (none)) else (none)) else (none)) else (none))) else (some (⟨#[]⟩ : ByteArray)))) = some r := h; clear h; obtain ⟨a9, A2, H⟩ := bindA H; (try dsimp only at H)
 by_cases c3 : a9 = true
 ·
  subst c3
  rw [if_pos rfl] at H
  obtain ⟨a4, A4, H⟩ := bindA H; (try dsimp only at H)
  by_cases c5 : 1 + a4.size ≤ 9223372036854775807
  ·
   rw [if_pos c5] at H
   have d6 := eq_true c5; have d7 : decide (1 + a4.size ≤ 9223372036854775807) = true := decide_eq_true c5
   try have d8 : (9223372036854775807 < 1 + a4.size) = False := eq_false (Nat.not_lt.2 c5)
   by_cases c6 : ((⟨#[47]⟩ : ByteArray) ++ a4).size + 1 ≤ 9223372036854775807
   ·
    rw [if_pos c6] at H
    have d9 := eq_true c6; have e0 : decide (((⟨#[47]⟩ : ByteArray) ++ a4).size + 1 ≤ 9223372036854775807) = true := decide_eq_true c6
    try have e1 : (9223372036854775807 < ((⟨#[47]⟩ : ByteArray) ++ a4).size + 1) = False := eq_false (Nat.not_lt.2 c6)
    try (have b0 := c6; simp only [ByteArray.size_append', ByteArray.size_mk', List.size_toArray, List.length_cons, List.length_nil, Nat.zero_add, Nat.reduceAdd] at b0; replace b0 := eq_false (Nat.not_lt.2 b0))
    by_cases c7 : (((⟨#[47]⟩ : ByteArray) ++ a4) ++ (⟨#[47]⟩ : ByteArray)).size + a0_1.size ≤ 9223372036854775807
    ·
     rw [if_pos c7] at H
     have e2 := eq_true c7; have e3 : decide ((((⟨#[47]⟩ : ByteArray) ++ a4) ++ (⟨#[47]⟩ : ByteArray)).size + a0_1.size ≤ 9223372036854775807) = true := decide_eq_true c7
     try have e4 : (9223372036854775807 < (((⟨#[47]⟩ : ByteArray) ++ a4) ++ (⟨#[47]⟩ : ByteArray)).size + a0_1.size) = False := eq_false (Nat.not_lt.2 c7)
     try (have b1 := c7; simp only [ByteArray.size_append', ByteArray.size_mk', List.size_toArray, List.length_cons, List.length_nil, Nat.zero_add, Nat.reduceAdd] at b1; replace b1 := eq_false (Nat.not_lt.2 b1))
     by_cases c8 : ((((⟨#[47]⟩ : ByteArray) ++ a4) ++ (⟨#[47]⟩ : ByteArray)) ++ a0_1).size + 3 ≤ 9223372036854775807
     ·
      rw [if_pos c8] at H
      have e5 := eq_true c8; have e6 : decide (((((⟨#[47]⟩ : ByteArray) ++ a4) ++ (⟨#[47]⟩ : ByteArray)) ++ a0_1).size + 3 ≤ 9223372036854775807) = true := decide_eq_true c8
      try have e7 : (9223372036854775807 < ((((⟨#[47]⟩ : ByteArray) ++ a4) ++ (⟨#[47]⟩ : ByteArray)) ++ a0_1).size + 3) = False := eq_false (Nat.not_lt.2 c8)
      try (have b2 := c8; simp only [ByteArray.size_append', ByteArray.size_mk', List.size_toArray, List.length_cons, List.length_nil, Nat.zero_add, Nat.reduceAdd] at b2; replace b2 := eq_false (Nat.not_lt.2 b2))
      obtain ⟨a6, A9, H⟩ := bindA H; (try dsimp only at H)
      by_cases c10 : (((((⟨#[47]⟩ : ByteArray) ++ a4) ++ (⟨#[47]⟩ : ByteArray)) ++ a0_1) ++ (⟨#[63, 101, 61]⟩ : ByteArray)).size + a6.size ≤ 9223372036854775807
      ·
       rw [if_pos c10] at H
       have d3 := eq_true c10; have d4 : decide ((((((⟨#[47]⟩ : ByteArray) ++ a4) ++ (⟨#[47]⟩ : ByteArray)) ++ a0_1) ++ (⟨#[63, 101, 61]⟩ : ByteArray)).size + a6.size ≤ 9223372036854775807) = true := decide_eq_true c10
       try have d5 : (9223372036854775807 < (((((⟨#[47]⟩ : ByteArray) ++ a4) ++ (⟨#[47]⟩ : ByteArray)) ++ a0_1) ++ (⟨#[63, 101, 61]⟩ : ByteArray)).size + a6.size) = False := eq_false (Nat.not_lt.2 c10)
       try (have a7 := c10; simp only [ByteArray.size_append', ByteArray.size_mk', List.size_toArray, List.length_cons, List.length_nil, Nat.zero_add, Nat.reduceAdd] at a7; replace a7 := eq_false (Nat.not_lt.2 a7))
       obtain rfl := Option.some.inj H
       go_enter Tryd.func25, Tryd.ntmps25
       try go_wp2_with (first | ((with_reducible refine gd_ 1 rfl ?_); refine bx_ 1 rfl #[.slice A0_0 l0_0.length c0_0, .string a0_1, .int .i64 a0_2] 37 ?_; intro a5 hg w11 hbox hb; have a3 := yaa (hbox); have a8 := yaa ((by rw [hg]; exact (below_size (upH HB.out)) : w.heap.size ≤ a5)); replace HB := yaa (below_step (upH HB.out) hb); have b3 := a8; clear hb hbox hg; obtain ⟨b4, b5, b6⟩ := cc3_ a3.out; obtain ⟨b7, b8⟩ := cf2_ a3.out; have b9 := blk_frozen a3.out 2) | ((with_reducible refine gc_ 28 rfl ?_); refine gl_ (some 4) rfl Tryd.func28 #[.agg #[.slice A0_0 l0_0.length c0_0, .string a0_1, .int .i64 a0_2]] ?_; (with_reducible refine (spec_AskOk.calls k _ _ l0_0 a0_1 a0_2 true _ ?side1 ?side2 A2.out).mono ?_); (case side1 => repeat (first | exact (Kd.C_below HR0_0.out HB.out) | (with_reducible refine Kd.C_alloc ?_ _) | (with_reducible refine Kd.C_drewN ?_ _) | (with_reducible refine Kd.C_drew ?_))); (case side2 => exact HC0_0.out); rintro e w13 ⟨rfl, hb⟩; refine ⟨_, rfl, ?_⟩; replace a3 := yaa (blk_below (upB a3.out) hb); replace HB := yaa (below_step (by repeat (with_reducible first | exact HB.out | apply below_alloc | apply pw_below_drewN | apply below_drew1 | refine below_set ?_ (Aside0.out ‹_›))) hb); (try clear hb)))
       replace a3 := yaa (blk_drew a3.out); replace HB := yaa (below_drew1 HB.out)
       refine start_ (n := 14) (S := fun w' => w'.cell? ⟨a5, 0, none⟩ = some (.slice A0_0 l0_0.length c0_0) ∧ w'.cell? ⟨a5, 1, none⟩ = some (.string a0_1) ∧ w'.cell? ⟨a5, 2, none⟩ = some (.int .i64 a0_2)) (ds := []) q25_0 (by kernel_rfl) rfl rfl ⟨(blk_cell a3.out 0).trans rfl, (blk_cell a3.out 1).trans rfl, (blk_cell a3.out 2).trans rfl⟩ (fun hHeld => ?_); refine with_tabW spec_AskText.tab3 spec_AskText.bits3 (fun HT_ HW_ => ?_)
       generalize w13.drew = w14 at a3 HB hHeld ⊢
       refine pz_ 0 6 q25_1 HT_ (by kernel_rfl) ?_
       refine pz_ 5 11 q25_2 HT_ (by kernel_rfl) ?_
       refine pz_ 9 15 q25_3 HT_ (by kernel_rfl) ?_
       refine tz_ 1 7 q25_4 HT_ HW_ (by kernel_rfl) hHeld ?_
       refine tz_ 6 12 q25_5 HT_ HW_ (by kernel_rfl) hHeld ?_
       refine tz_ 10 16 q25_6 HT_ HW_ (by kernel_rfl) hHeld ?_
       refine one_ (i := 2) (N := some 8) q25_7 rfl rfl (one_of HT_.out (by kernel_rfl)) (by decide) (fun K hK => ?_)
       refine goes_ Tryd.func59 (by kernel_rfl) rfl #[.slice A0_0 l0_0.length c0_0] (by rfl) rfl rfl (by (try simp only [List.map_toArray, List.map_cons, List.map_nil]); first | done | rfl | (simp only [List.length_drop, List.length_take]; rfl)) ?_
       with_reducible refine (spec_l7Ops.calls k _ _ l0_0 a4 _ ?side1 ?side2 A4.out).mono ?_
       (case side1 => repeat (first | exact (Kd.C_below HR0_0.out HB.out) | (with_reducible refine Kd.C_alloc ?_ _) | (with_reducible refine Kd.C_drewN ?_ _) | (with_reducible refine Kd.C_drew ?_)))
       (case side2 => exact HC0_0.out)
       rintro e w15 ⟨rfl, hb⟩; refine ⟨_, rfl, ?_⟩; have n0_ := yaa (blk_below (upB a3.out) hb)
       have n1_ := yaa (below_step (by repeat (with_reducible first | exact HB.out | apply below_alloc | apply pw_below_drewN | apply below_drew1 | refine below_set ?_ (Aside0.out ‹_›))) hb)
       clear a3; clear HB; have a3 := n0_; have HB := n1_; clear n0_ n1_; (try clear hb); (try clear hb2); (try clear hk); (try clear hi)
       refine hK.out _ _ ⟨(blk_cell a3.out 0).trans rfl, (blk_cell a3.out 1).trans rfl, (blk_cell a3.out 2).trans rfl⟩ (fun hHeld => ?_)
       clear hK K
       refine norm_ (a' := ?_) ?_ ?_
       rotate_left
       ·
        show Act.put _ (some 8) _ = _
        simp only [Act.put, List.setIfInBounds_toArray, List.set_cons_zero, List.set_cons_succ, i64_w, i32_w]
        rfl
       refine pz_ 3 9 q25_8 HT_ (by kernel_rfl) ?_
       refine pz_ 4 10 q25_9 HT_ (by kernel_rfl) ?_
       refine pz_ 7 13 q25_10 HT_ (by kernel_rfl) ?_
       refine pz_ 8 14 q25_11 HT_ (by kernel_rfl) ?_
       refine one_ (i := 11) (N := some 17) q25_12 rfl rfl (one_of HT_.out (by kernel_rfl)) (by decide) (fun K hK => ?_)
       refine goes_ Tryd.func42 (by kernel_rfl) rfl #[.int .i64 a0_2] (by rfl) rfl rfl (by (try simp only [List.map_toArray, List.map_cons, List.map_nil]); first | done | rfl | (simp only [List.length_drop, List.length_take]; rfl)) ?_
       with_reducible refine (spec_l7Plain.calls k a0_2 a6 _ A9.out).mono ?_
       rintro e w16 ⟨rfl, hb⟩; refine ⟨_, rfl, ?_⟩; have n0_ := yaa (blk_below (upB a3.out) hb)
       have n1_ := yaa (below_step (by repeat (with_reducible first | exact HB.out | apply below_alloc | apply pw_below_drewN | apply below_drew1 | refine below_set ?_ (Aside0.out ‹_›))) hb)
       clear a3; clear HB; have a3 := n0_; have HB := n1_; clear n0_ n1_; (try clear hb); (try clear hb2); (try clear hk); (try clear hi)
       refine hK.out _ _ ⟨(blk_cell a3.out 0).trans rfl, (blk_cell a3.out 1).trans rfl, (blk_cell a3.out 2).trans rfl⟩ (fun hHeld => ?_)
       clear hK K
       refine norm_ (a' := ?_) ?_ ?_
       rotate_left
       ·
        show Act.put _ (some 17) _ = _
        simp only [Act.put, List.setIfInBounds_toArray, List.set_cons_zero, List.set_cons_succ, i64_w, i32_w]
        rfl
       refine pz_ 12 18 q25_13 HT_ (by kernel_rfl) ?_
       refine pz_ 13 2 q25_14 HT_ (by kernel_rfl) ?_
       refine done_ (done_of HT_.out (by kernel_rfl)) ?_
       try go_wp2
       go_ret
       exact ⟨by first | rfl | (simp [*, errW_none, errW_some] <;> rfl), by repeat (with_reducible first | exact HB.out | apply below_alloc | apply pw_below_drewN | apply below_drew1 | refine below_set ?_ (Aside0.out ‹_›))⟩
      ·
       rw [if_neg c10] at H
       exact absurd H (by simp)
     ·
      rw [if_neg c8] at H
      exact absurd H (by simp)
    ·
     rw [if_neg c7] at H
     exact absurd H (by simp)
   ·
    rw [if_neg c6] at H
    exact absurd H (by simp)
  ·
   rw [if_neg c5] at H
   exact absurd H (by simp)
 ·
  replace c3 := Bool.eq_false_iff.mpr c3
  subst c3
  rw [if_neg (show ¬ (false = true) by decide)] at H
  obtain rfl := Option.some.inj H
  go_enter Tryd.func25, Tryd.ntmps25
  go_wp2_with (first | ((with_reducible refine gd_ 1 rfl ?_); refine bx_ 1 rfl #[.slice A0_0 l0_0.length c0_0, .string a0_1, .int .i64 a0_2] 37 ?_; intro a5 hg w17 hbox hb; have a3 := yaa (hbox); have a8 := yaa ((by rw [hg]; exact (below_size (upH HB.out)) : w.heap.size ≤ a5)); replace HB := yaa (below_step (upH HB.out) hb); have b3 := a8; clear hb hbox hg; obtain ⟨c0, c1, c2⟩ := cc3_ a3.out; obtain ⟨c4, c9⟩ := cf2_ a3.out; have d0 := blk_frozen a3.out 2) | ((with_reducible refine gc_ 28 rfl ?_); refine gl_ (some 4) rfl Tryd.func28 #[.agg #[.slice A0_0 l0_0.length c0_0, .string a0_1, .int .i64 a0_2]] ?_; (with_reducible refine (spec_AskOk.calls k _ _ l0_0 a0_1 a0_2 false _ ?side1 ?side2 A2.out).mono ?_); (case side1 => repeat (first | exact (Kd.C_below HR0_0.out HB.out) | (with_reducible refine Kd.C_alloc ?_ _) | (with_reducible refine Kd.C_drewN ?_ _) | (with_reducible refine Kd.C_drew ?_))); (case side2 => exact HC0_0.out); rintro e w19 ⟨rfl, hb⟩; refine ⟨_, rfl, ?_⟩; replace a3 := yaa (blk_below (upB a3.out) hb); replace HB := yaa (below_step (by repeat (with_reducible first | exact HB.out | apply below_alloc | apply pw_below_drewN | apply below_drew1 | refine below_set ?_ (Aside0.out ‹_›))) hb); (try clear hb)))
  go_ret
  exact ⟨by first | rfl | (simp [*, errW_none, errW_some] <;> rfl), by repeat (with_reducible first | exact HB.out | apply below_alloc | apply pw_below_drewN | apply below_drew1 | refine below_set ?_ (Aside0.out ‹_›))⟩
end
section
def spec_l7Cut.l0 : Nat → ByteArray → Int → List ByteArray → ByteArray → Int → Option (List ByteArray)
 | 0, _, _, _, _, _ => none
 | k + 1, x0, x1, x5, x6, x7 => if x7 < (x0.size : Int) then (if 0 ≤ x7 then (if (bt x0 x7) = x1 then (if x5.length < 8796093022208 then (spec_l7Cut.l0 k x0 x1 (x5 ++ [x6]) (⟨#[]⟩ : ByteArray) (wrap64 (x7 + 1))) else (none)) else (if x7 ≤ (wrap64 (x7 + 1)) then (if (wrap64 (x7 + 1)) ≤ (x0.size : Int) then (if x6.size + (x0.extract (x7 : Int).toNat ((wrap64 (x7 + 1)) : Int).toNat).size ≤ 9223372036854775807 then (spec_l7Cut.l0 k x0 x1 x5 (x6 ++ (x0.extract (x7 : Int).toNat ((wrap64 (x7 + 1)) : Int).toNat)) (wrap64 (x7 + 1))) else (none)) else (none)) else (none))) else (none)) else (if x5.length < 8796093022208 then (some (x5 ++ [x6])) else (none))
def spec_l7Cut.f (k : Nat) (a0 : ByteArray) (a1 : Int) : Option (List ByteArray) := spec_l7Cut.l0 k a0 a1 (([] : List ByteArray)) (⟨#[]⟩ : ByteArray) 0
set_option maxHeartbeats 8000000 in
set_option maxRecDepth 100000 in
theorem spec_l7Cut.calls (k : Nat) (a0 : ByteArray) (a1 : Int) (r : List ByteArray) (w : World) (h : spec_l7Cut.f k a0 a1 = some r) :
  Calls Tryd.prog 29 #[.string a0, .int .u8 a1] w fun e w' => ∃ v0_ : Value, e = .returned (v0_) ∧ Kd.R Kd.string 9 w' w.heap.size (fun _ => True) v0_ r ∧ Below w.heap.size w w' := by
 have HB := Aside0.mk (Below.refl w.heap.size w); have H : (spec_l7Cut.l0 k a0 a1 (([] : List ByteArray)) (⟨#[]⟩ : ByteArray) 0) = some r := h; clear h; obtain ⟨y101, hy101⟩ : ∃ y_ : List ByteArray, y_ = (([] : List ByteArray)) := ⟨_, rfl⟩
 replace H : (spec_l7Cut.l0 k a0 a1 y101 (⟨#[]⟩ : ByteArray) 0) = some r := by first | (rw [hy101]; with_reducible exact H) | (have H2_ := (Option.bind_some _ _).symm.trans H; rw [hy101]; with_reducible exact H2_) | (have H2_ := (Option.bind_some _ _).symm.trans H; with_reducible exact H2_) | with_reducible exact H | (rw [hy101]; exact H) | exact H
 have Ny101 := Aside0.mk hy101; clear hy101; have H' := Aside0.mk H; clear H
 go_enter Tryd.func29, Tryd.ntmps29
 go_wp2_with (first | ((with_reducible refine gd_ 8 rfl ?_); refine Kd.R_lit Kd.string _ 9 ?hg (N := 8) ?hd (xs := ([] : List ByteArray)) (inner := []) (ok := fun _ => True) (okp := fun _ => True) ?hr ?hp (fun _ hk => hk) trivial (Below.refl _ _) (Nat.le_refl _) (by simp) ?_; (case hd => rfl); (case hg => rfl); (case hr => first | (go_simp; done) | (go_simp; rfl)); (case hp => exact (Reps.none _ _)); intro c0 w3 ho4 hb hg_ hnew_; clear hg_ hnew_; (first | rw [← Ny101.out] at ho4 | (simp only [Int.reduceToNat] at ho4; rw [← Ny101.out] at ho4)); have a6 := Aside0.mk (Kd.R_lower ho4 (below_size (upH HB.out))); replace HB := Aside0.mk (below_step (upH HB.out) hb); clear hb ho4))
 (try simp only [Act.put, List.setIfInBounds_toArray, List.set_cons_zero, List.set_cons_succ])
 go_loopg [5, 6, 7] k (fun kq v5 v6 v7 w' => ∃ (a4 : List ByteArray) (a3 : ByteArray) (a2 : Int), v6 = .string a3 ∧ v7 = .int .i64 a2 ∧ Aside0 (spec_l7Cut.l0 kq a0 a1 a4 a3 a2 = some r) ∧ Aside0 (kq ≤ k) ∧ Aside0 (Kd.R Kd.string 9 w' w.heap.size (fun _ => True) v5 a4) ∧ Aside0 (Below w.heap.size w w'))
 case atStart => exact ⟨(y101), ((⟨#[]⟩ : ByteArray)), (0), (by first | rfl | (simp; done) | (simp [*]; done)), (by first | rfl | (simp; done) | (simp [*]; done)), H', ⟨Nat.le_refl _⟩, ⟨by first | exact a6.out | exact upR a6.out⟩, ⟨upH HB.out⟩⟩
 case round =>
  clear H'; (try clear c2); (try clear p2); obtain ⟨a4, a3, a2, rfl, rfl, HA, HK1, a5, HB⟩ := hrel
  cases gk with
  | zero => exact absurd HA.out (by simp [spec_l7Cut.l0])
  | succ k1 =>
   have H := HA.out; clear HA
   simp only [spec_l7Cut.l0] at H
   by_cases c5 : a2 < (a0.size : Int)
   ·
    rw [if_pos c5] at H
    have a9 : decide (a2 < (a0.size : Int)) = true := decide_eq_true c5; clear c5
    by_cases c6 : 0 ≤ a2
    ·
     rw [if_pos c6] at H
     replace c6 := decide_eq_true c6
     by_cases c8 : (bt a0 a2) = a1
     ·
      rw [if_pos c8] at H
      have b0 := beq_iff_eq.mpr c8; have b1 := bne_eq_false_iff_eq.mpr c8; clear c8
      by_cases c9 : a4.length < 8796093022208
      ·
       rw [if_pos c9] at H
       have LMc9 := Aside0.mk c9; clear c9; obtain ⟨y104, hy104⟩ : ∃ y_ : List ByteArray, y_ = (a4 ++ [a3]) := ⟨_, rfl⟩
       replace H : (spec_l7Cut.l0 k1 a0 a1 y104 (⟨#[]⟩ : ByteArray) (wrap64 (a2 + 1))) = some r := by first | (rw [hy104]; with_reducible exact H) | (have H2_ := (Option.bind_some _ _).symm.trans H; rw [hy104]; with_reducible exact H2_) | (have H2_ := (Option.bind_some _ _).symm.trans H; with_reducible exact H2_) | with_reducible exact H | (rw [hy104]; exact H) | exact H
       have Ny104 := Aside0.mk hy104; clear hy104; have H' := Aside0.mk H; clear H; have p7 : 0 ≤ (a2 : Int) := of_decide_eq_true (by assumption); have q7 : a2 < (a0.size : Int) := of_decide_eq_true (by assumption); have hx7 := bt_at a0 a2; replace p7 := eq_true p7; replace q7 := eq_true q7
       go_wp2_with (first | ((with_reducible refine gate_builtin (b := .append) (xs := #[.tmp 20, .tmp 22]) rfl ?_); at_builtin; refine Kd.R_append Kd.string (w0 := w) w.heap.size rfl (.tmp 20) (.tmp 22) 45 9 (.string ⟨#[]⟩) 16 rfl Tryd.underlying45 info9 rfl (by decide) (by omega) u5 a4 a3 [.string a3] (fun _ => True) (fun _ => False) rfl rfl ?aP (fun _ hk => hk.elim) ?aF ?aO ?aB ?aS ?aL ?_; (case aP => exact rfl); (case aB => exact (upH HB.out)); (case aF => exact (fun _ _ => trivial)); (case aO => exact (upR a5.out)); (case aS => exact (below_size (upH HB.out))); (case aL => have := LMc9.out; omega); intro c1 w10 ho hb hg hat; rw [← Ny104.out] at ho; replace HB := Aside0.mk (hb); have a7 := Aside0.mk (ho); clear a5; clear ho hb hg hat))
       go_roundg k1
       case measure => have := HK1.out; omega
       case rel => exact ⟨(y104), ((⟨#[]⟩ : ByteArray)), (wrap64 (a2 + 1)), (by first | rfl | (simp; done) | (simp [*]; done)), (by first | rfl | (simp; done) | (simp [*]; done)), H', ⟨by have := HK1.out; omega⟩, ⟨by first | exact a7.out | exact upR a7.out⟩, ⟨upH HB.out⟩⟩
      ·
       rw [if_neg c9] at H
       exact absurd H (by simp)
     ·
      rw [if_neg c8] at H
      have b0 := beq_eq_false_iff_ne.mpr c8; have b1 := bne_iff_ne.mpr c8; have b2 := eq_true (of_decide_eq_true (by assumption) : 0 ≤ a2)
      by_cases c12 : a2 ≤ (wrap64 (a2 + 1))
      ·
       rw [if_pos c12] at H
       have b3 := eq_true c12; have b4 : decide (a2 ≤ (wrap64 (a2 + 1))) = true := decide_eq_true c12
       by_cases c13 : (wrap64 (a2 + 1)) ≤ (a0.size : Int)
       ·
        rw [if_pos c13] at H
        have b5 := eq_true c13; have b6 : decide ((wrap64 (a2 + 1)) ≤ (a0.size : Int)) = true := decide_eq_true c13
        by_cases c14 : a3.size + (a0.extract (a2 : Int).toNat ((wrap64 (a2 + 1)) : Int).toNat).size ≤ 9223372036854775807
        ·
         rw [if_pos c14] at H
         have b7 := eq_true c14; have b8 : decide (a3.size + (a0.extract (a2 : Int).toNat ((wrap64 (a2 + 1)) : Int).toNat).size ≤ 9223372036854775807) = true := decide_eq_true c14
         try have b9 : (9223372036854775807 < a3.size + (a0.extract (a2 : Int).toNat ((wrap64 (a2 + 1)) : Int).toNat).size) = False := eq_false (Nat.not_lt.2 c14)
         have H' := Aside0.mk H; clear H; have p7 : 0 ≤ (a2 : Int) := of_decide_eq_true (by assumption); have q7 : a2 < (a0.size : Int) := of_decide_eq_true (by assumption); have hx7 := bt_at a0 a2; replace p7 := eq_true p7; replace q7 := eq_true q7
         go_wp2
         go_roundg k1
         case measure => have := HK1.out; omega
         case rel => exact ⟨(a4), (a3 ++ (a0.extract (a2 : Int).toNat ((wrap64 (a2 + 1)) : Int).toNat)), (wrap64 (a2 + 1)), (by first | rfl | (simp; done) | (simp [*]; done)), (by first | rfl | (simp; done) | (simp [*]; done)), H', ⟨by have := HK1.out; omega⟩, ⟨by first | exact a5.out | exact upR a5.out⟩, ⟨upH HB.out⟩⟩
        ·
         rw [if_neg c14] at H
         exact absurd H (by simp)
       ·
        rw [if_neg c13] at H
        exact absurd H (by simp)
      ·
       rw [if_neg c12] at H
       exact absurd H (by simp)
    ·
     rw [if_neg c6] at H
     exact absurd H (by simp)
   ·
    rw [if_neg c5] at H
    have a9 : decide (a2 < (a0.size : Int)) = false := decide_eq_false c5; clear c5
    by_cases c15 : a4.length < 8796093022208
    ·
     rw [if_pos c15] at H
     have LMc15 := Aside0.mk c15; clear c15; obtain ⟨y107, hy107⟩ : ∃ y_ : List ByteArray, y_ = (a4 ++ [a3]) := ⟨_, rfl⟩
     replace H : (some y107) = some r := by first | (rw [hy107]; with_reducible exact H) | (have H2_ := (Option.bind_some _ _).symm.trans H; rw [hy107]; with_reducible exact H2_) | (have H2_ := (Option.bind_some _ _).symm.trans H; with_reducible exact H2_) | with_reducible exact H | (rw [hy107]; exact H) | exact H
     have Ny107 := Aside0.mk hy107; clear hy107; obtain rfl := Option.some.inj H
     go_wp2_with (first | ((with_reducible refine gate_builtin (b := .append) (xs := #[.tmp 31, .tmp 33]) rfl ?_); at_builtin; refine Kd.R_append Kd.string (w0 := w) w.heap.size rfl (.tmp 31) (.tmp 33) 45 9 (.string ⟨#[]⟩) 16 rfl Tryd.underlying45 info9 rfl (by decide) (by omega) u5 a4 a3 [.string a3] (fun _ => True) (fun _ => False) rfl rfl ?aP (fun _ hk => hk.elim) ?aF ?aO ?aB ?aS ?aL ?_; (case aP => exact rfl); (case aB => exact (upH HB.out)); (case aF => exact (fun _ _ => trivial)); (case aO => exact (upR a5.out)); (case aS => exact (below_size (upH HB.out))); (case aL => have := LMc15.out; omega); intro c3 w16 ho hb hg hat; rw [← Ny107.out] at ho; replace HB := Aside0.mk (hb); have a8 := Aside0.mk (ho); clear a5; clear ho hb hg hat))
     go_ret
     exact ⟨_, by first | rfl | (simp [*, errW_none, errW_some] <;> rfl), by first | exact a8.out | exact upR a8.out, upH HB.out⟩
    ·
     rw [if_neg c15] at H
     exact absurd H (by simp)
end
section
mutual
def spec_l7Num.j0 : Nat → ByteArray → Bool → Option (Int)
 | 0, _, _ => none
 | k + 1, x0, x12 => if x12 = true then (some (-1)) else (spec_l7Num.l0 k x0 0 0)
def spec_l7Num.l0 : Nat → ByteArray → Int → Int → Option (Int)
 | 0, _, _, _ => none
 | k + 1, x0, x3, x4 => if x4 < (x0.size : Int) then (if 0 ≤ x4 then (if (bt x0 x4) < 48 then (some (-1)) else (if (bt x0 x4) > 57 then (some (-1)) else (spec_l7Num.l0 k x0 (wrap64 ((wrap64 (x3 * 10)) + (((bt x0 x4) - 48) % 256))) (wrap64 (x4 + 1))))) else (none)) else ((spec_l7Plain.f k x3).bind fun t101 => (if t101.toList = x0.toList then (some x3) else (some (-1))))
end
def spec_l7Num.f (k : Nat) (a0 : ByteArray) : Option (Int) := if (a0.size : Int) = 0 then (spec_l7Num.j0 k a0 true) else (spec_l7Num.j0 k a0 (decide ((a0.size : Int) > 4)))
set_option maxHeartbeats 8000000 in
set_option maxRecDepth 100000 in
theorem spec_l7Num.calls (k : Nat) (a0 : ByteArray) (r : Int) (w : World) (h : spec_l7Num.f k a0 = some r) :
  Calls Tryd.prog 30 #[.string a0] w fun e w' => e = .returned (.int .i64 r) ∧ Below w.heap.size w w' := by
 have HB := Aside0.mk (Below.refl w.heap.size w); have H : (if (a0.size : Int) = 0 then (spec_l7Num.j0 k a0 true) else (spec_l7Num.j0 k a0 (decide ((a0.size : Int) > 4)))) = some r := h; clear h; have HC2 := Aside0.mk H; clear H
 go_enter Tryd.func30, Tryd.ntmps30
 go_upto_region 1 with (fail)
 go_cut [12] (fun v12 wc => ∃ (kq : Nat) (a4 : Bool), v12 = .bool a4 ∧ Aside0 (spec_l7Num.j0 kq a0 a4 = some r) ∧ Aside0 (kq ≤ k) ∧ Aside0 (Below w.heap.size w wc))
 case first =>
  have H := HC2.out; clear HC2
  by_cases c3 : (a0.size : Int) = 0
  ·
   rw [if_pos c3] at H
   have a3 := beq_iff_eq.mpr c3; have a5 := bne_eq_false_iff_eq.mpr c3; clear c3
   (first | rw [a3] | (simp only [i64_w, i32_w]; rw [a3]) | skip)
   have H' := Aside0.mk H; clear H
   go_wp2
   go_meet
   case rel => exact ⟨_, (true), (by first | rfl | (simp; done) | (simp [*]; done)), H', ⟨by first | omega | exact Nat.le_refl _⟩, ⟨upH HB.out⟩⟩
  ·
   rw [if_neg c3] at H
   have a3 := beq_eq_false_iff_ne.mpr c3; have a5 := bne_iff_ne.mpr c3
   (first | rw [a3] | (simp only [i64_w, i32_w]; rw [a3]) | skip)
   have H' := Aside0.mk H; clear H
   go_wp2
   go_meet
   case rel => exact ⟨_, (decide ((a0.size : Int) > 4)), (by first | rfl | (simp; done) | (simp [*]; done)), H', ⟨by first | omega | exact Nat.le_refl _⟩, ⟨upH HB.out⟩⟩
 case rest =>
  clear HC2; (try clear p2); (try clear c3); (try clear a3); (try clear a5); obtain ⟨kq, a4, rfl, HA, HJ1, HB⟩ := hcut
  cases kq with
  | zero => exact absurd HA.out (by simp [spec_l7Num.j0])
  | succ kj1 =>
   have H := HA.out; clear HA
   simp only [spec_l7Num.j0] at H
   by_cases c4 : a4 = true
   ·
    subst c4
    rw [if_pos rfl] at H
    obtain rfl := Option.some.inj H
    go_wp2
    go_ret
    exact ⟨by first | rfl | (simp [*, errW_none, errW_some] <;> rfl), upH HB.out⟩
   ·
    replace c4 := Bool.eq_false_iff.mpr c4
    subst c4
    rw [if_neg (show ¬ (false = true) by decide)] at H
    have H' := Aside0.mk H; clear H
    go_wp2
    (try simp only [Act.put, List.setIfInBounds_toArray, List.set_cons_zero, List.set_cons_succ])
    go_loopg [3, 4] kj1 (fun kq v3 v4 w' => ∃ (a2 : Int) (a1 : Int), v3 = .int .i64 a2 ∧ v4 = .int .i64 a1 ∧ Aside0 (spec_l7Num.l0 kq a0 a2 a1 = some r) ∧ Aside0 (kq ≤ kj1) ∧ Aside0 (Below w.heap.size w w'))
    case atStart => exact ⟨(0), (0), (by first | rfl | (simp; done) | (simp [*]; done)), (by first | rfl | (simp; done) | (simp [*]; done)), H', ⟨Nat.le_refl _⟩, ⟨upH HB.out⟩⟩
    case round =>
     clear H'; (try clear p2); (try clear c3); (try clear a3); (try clear a5); (try clear c4); (try clear p2); obtain ⟨a2, a1, rfl, rfl, HA, HK2, HB⟩ := hrel
     cases gk with
     | zero => exact absurd HA.out (by simp [spec_l7Num.l0])
     | succ k2 =>
      have H := HA.out; clear HA
      simp only [spec_l7Num.l0] at H
      by_cases c5 : a1 < (a0.size : Int)
      ·
       rw [if_pos c5] at H
       have b0 : decide (a1 < (a0.size : Int)) = true := decide_eq_true c5; clear c5
       by_cases c6 : 0 ≤ a1
       ·
        rw [if_pos c6] at H
        replace c6 := decide_eq_true c6
        by_cases c8 : (bt a0 a1) < 48
        ·
         rw [if_pos c8] at H
         have b1 : decide ((bt a0 a1) < 48) = true := decide_eq_true c8; clear c8; obtain rfl := Option.some.inj H; have p7 : 0 ≤ (a1 : Int) := of_decide_eq_true (by assumption); have q7 : a1 < (a0.size : Int) := of_decide_eq_true (by assumption); have hx7 := bt_at a0 a1; replace p7 := eq_true p7; replace q7 := eq_true q7
         go_wp2
         go_ret
         exact ⟨by first | rfl | (simp [*, errW_none, errW_some] <;> rfl), upH HB.out⟩
        ·
         rw [if_neg c8] at H
         have b1 : decide ((bt a0 a1) < 48) = false := decide_eq_false c8; clear c8
         by_cases c10 : (bt a0 a1) > 57
         ·
          rw [if_pos c10] at H
          have a7 : decide (57 < (bt a0 a1)) = true := decide_eq_true c10; clear c10; obtain rfl := Option.some.inj H; have p7 : 0 ≤ (a1 : Int) := of_decide_eq_true (by assumption); have q7 : a1 < (a0.size : Int) := of_decide_eq_true (by assumption); have hx7 := bt_at a0 a1; replace p7 := eq_true p7; replace q7 := eq_true q7; have p9 : 0 ≤ (a1 : Int) := of_decide_eq_true (by assumption); have q9 : a1 < (a0.size : Int) := of_decide_eq_true (by assumption); have hx9 := bt_at a0 a1; replace p9 := eq_true p9; replace q9 := eq_true q9
          go_wp2
          go_ret
          exact ⟨by first | rfl | (simp [*, errW_none, errW_some] <;> rfl), upH HB.out⟩
         ·
          rw [if_neg c10] at H
          have a7 : decide (57 < (bt a0 a1)) = false := decide_eq_false c10; clear c10; have H' := Aside0.mk H; clear H; have p7 : 0 ≤ (a1 : Int) := of_decide_eq_true (by assumption); have q7 : a1 < (a0.size : Int) := of_decide_eq_true (by assumption); have hx7 := bt_at a0 a1; replace p7 := eq_true p7; replace q7 := eq_true q7; have p9 : 0 ≤ (a1 : Int) := of_decide_eq_true (by assumption); have q9 : a1 < (a0.size : Int) := of_decide_eq_true (by assumption); have hx9 := bt_at a0 a1; replace p9 := eq_true p9; replace q9 := eq_true q9; have p11 : 0 ≤ (a1 : Int) := of_decide_eq_true (by assumption); have q11 : a1 < (a0.size : Int) := of_decide_eq_true (by assumption); have b2 := bt_at a0 a1; replace p11 := eq_true p11; replace q11 := eq_true q11
          go_wp2
          go_roundg k2
          case measure => have := HJ1.out; have := HK2.out; omega
          case rel => exact ⟨(wrap64 ((wrap64 (a2 * 10)) + (((bt a0 a1) - 48) % 256))), (wrap64 (a1 + 1)), (by first | rfl | (simp; done) | (simp [*]; done)), (by first | rfl | (simp; done) | (simp [*]; done)), H', ⟨by have := HJ1.out; have := HK2.out; omega⟩, ⟨upH HB.out⟩⟩
       ·
        rw [if_neg c6] at H
        exact absurd H (by simp)
      ·
       rw [if_neg c5] at H
       have b0 : decide (a1 < (a0.size : Int)) = false := decide_eq_false c5; clear c5; obtain ⟨a6, A12, H⟩ := bindA H; (try dsimp only at H)
       by_cases c13 : a6.toList = a0.toList
       ·
        rw [if_pos c13] at H
        have a8 := beq_iff_eq.mpr c13; have a9 := bne_eq_false_iff_eq.mpr c13; clear c13; obtain rfl := Option.some.inj H
        go_wp2_with (first | ((with_reducible refine gc_ 42 rfl ?_); refine gl_ (some 38) rfl Tryd.func42 #[.int .i64 a2] ?_; (with_reducible refine (spec_l7Plain.calls k2 a2 a6 _ A12.out).mono ?_); rintro e w14 ⟨rfl, hb⟩; refine ⟨_, rfl, ?_⟩; replace HB := Aside0.mk (below_step (upH HB.out) hb); (try clear hb)))
        go_ret
        exact ⟨by first | rfl | (simp [*, errW_none, errW_some] <;> rfl), upH HB.out⟩
       ·
        rw [if_neg c13] at H
        have a8 := beq_eq_false_iff_ne.mpr c13; have a9 := bne_iff_ne.mpr c13; obtain rfl := Option.some.inj H
        go_wp2_with (first | ((with_reducible refine gc_ 42 rfl ?_); refine gl_ (some 38) rfl Tryd.func42 #[.int .i64 a2] ?_; (with_reducible refine (spec_l7Plain.calls k2 a2 a6 _ A12.out).mono ?_); rintro e w15 ⟨rfl, hb⟩; refine ⟨_, rfl, ?_⟩; replace HB := Aside0.mk (below_step (upH HB.out) hb); (try clear hb)))
        go_ret
        exact ⟨by first | rfl | (simp [*, errW_none, errW_some] <;> rfl), upH HB.out⟩
end
section
open Go.Proofs.YtfafjpfigphchaaDoorW.PrintWords.Kd renaming own_blk → yaa, R_ne → yab, R_reads' → yak
open Go.Proofs.YtfafjpfigphchaaDoorW.PrintWords renaming add_block → yac, cell_far → yae, pw_below_drewN → yaf, below_drew1 → yag, below_alloc → yah, below_set → yai, blk_frozen → yaj, blk_put → yal
open Go.Proofs.YtfafjpfigphchaaDoorW.PrintWords.Aside0 renaming mk → yad

abbrev q7_0 : Array Bool := Array.replicate 16 false
abbrev q7_1 : Array Bool := bl_ 16 1
abbrev q7_2 : Array Bool := bl_ 16 3
abbrev q7_3 : Array Bool := bl_ 16 7
abbrev q7_4 : Array Bool := bl_ 16 23
abbrev q7_5 : Array Bool := bl_ 16 55
abbrev q7_6 : Array Bool := bl_ 16 183
abbrev q7_7 : Array Bool := bl_ 16 439
abbrev q7_8 : Array Bool := bl_ 16 1463
abbrev q7_9 : Array Bool := bl_ 16 3511
abbrev q7_10 : Array Bool := bl_ 16 3519
abbrev q7_11 : Array Bool := bl_ 16 3583
abbrev q7_12 : Array Bool := bl_ 16 4095
abbrev q7_13 : Array Bool := bl_ 16 8191
abbrev q7_14 : Array Bool := bl_ 16 16383
abbrev q7_15 : Array Bool := bl_ 16 32767
abbrev q7_16 : Array Bool := bl_ 16 65535
mutual
def spec_OpRead.j1 : Nat → ByteArray → List Int → Option (Int × Int × Int × Int × Int × Bool)
 | 0, _, _ => none
 | k + 1, x0, x5 => spec_OpRead.l1 k x0 x5 1
def spec_OpRead.l1 : Nat → ByteArray → List Int → Int → Option (Int × Int × Int × Int × Int × Bool)
 | 0, _, _, _ => none
 | k + 1, x0, x5, x7 => if x7 ≤ 8 then (if 0 < (x5.length : Int) then (if 1 < (x5.length : Int) then (if 2 < (x5.length : Int) then (if 3 < (x5.length : Int) then ((spec_OpText.f k x7 (rd x5 0) (rd x5 1) (rd x5 2) (rd x5 3)).bind fun t116 => (if t116.toList = x0.toList then (if x0.toList = ([] : List UInt8) then (spec_OpRead.l1 k x0 x5 (wrap64 (x7 + 1))) else (some (x7, rd x5 0, rd x5 1, rd x5 2, rd x5 3, true))) else (spec_OpRead.l1 k x0 x5 (wrap64 (x7 + 1))))) else (none)) else (none)) else (none)) else (none)) else (some (0, 0, 0, 0, 0, false))
def spec_OpRead.l0 : Nat → ByteArray → List ByteArray → List Int → Int → Option (Int × Int × Int × Int × Int × Bool)
 | 0, _, _, _, _ => none
 | k + 1, x0, x4, x5, x6 => if x6 < (x4.length : Int) then (if x6 < 5 then (if 0 ≤ x6 then ((spec_l7Num.f k (rdOf ByteArray.empty x4 x6)).bind fun t109 => (if 0 ≤ (wrap64 (x6 - 1)) then (if (wrap64 (x6 - 1)) < (x5.length : Int) then (spec_OpRead.l0 k x0 x4 (x5.set ((wrap64 (x6 - 1)) : Int).toNat t109) (wrap64 (x6 + 1))) else (none)) else (none))) else (none)) else (spec_OpRead.j1 k x0 x5)) else (spec_OpRead.j1 k x0 x5)
end
def spec_OpRead.f (k : Nat) (a0 : ByteArray) : Option (Int × Int × Int × Int × Int × Bool) := (spec_l7Cut.f k a0 46).bind fun t102 => (spec_OpRead.l0 k a0 t102 (([0, 0, 0, 0] : List Int)) 1)
def spec_OpRead.T10 : Bool × List (List Nat × List Nat) := (true, [([], []), ([], []), ([1], [1]), ([2], [2]), ([], []), ([4], [4]), ([5], [5]), ([], []), ([7], [7]), ([8], [8]), ([], []), ([10], [10]), ([11], [11]), ([0, 3, 6, 9, 12], [0, 3, 6, 9, 12]), ([], []), ([14, 13, 0, 1, 2, 3, 4, 5, 6, 7, 8, 9, 10, 11, 12, 13, 14], [13, 14])])
def spec_OpRead.B10 : List Nat := [0, 0, 2, 6, 0, 16, 48, 0, 128, 384, 0, 1024, 3072, 8191, 0, 32767]
theorem spec_OpRead.tab10 : rtab .any (opsOf Tryd.f7 10) = spec_OpRead.T10 := by kernel_rfl
theorem spec_OpRead.bits10 : waitsOk spec_OpRead.T10.2 spec_OpRead.B10 = true := by kernel_rfl
theorem ld5_ {ev : Operand → Value} {W : World} {b : Nat} {x0 x1 x2 x3 x4 : Int} (N : Tmp) {ps : String} (he : ev (.tmp 8) = .pointer (some ⟨b, 0, none⟩)) (h : W.heap[b]? = some (.cells #[.int .i64 x0, .int .i64 x1, .int .i64 x2, .int .i64 x3, .int .i64 x4] 23 (0, 0))) : (execOp ev { dst := some N, op := .load 23 (.tmp 8), type := 23, pos := ps, after := #[], guard := none }).run Tryd.prog W = .ok (.value (.agg #[.int .i64 x0, .int .i64 x1, .int .i64 x2, .int .i64 x3, .int .i64 x4])) W := by
 have hu := Tryd.underlying23
 obtain ⟨a0, a1, a2, a3, a4⟩ := cc5_ h; clear h
 go_simp
theorem st5_ {ev : Operand → Value} {W : World} {b : Nat} {x0 x1 x2 x3 x4 c0 c1 c2 c3 c4 : Int} {ps : String} {af : Array Edge} (he : ev (.tmp 8) = .pointer (some ⟨b, 0, none⟩)) (hv : ev (.tmp 48) = .agg #[.int .i64 c0, .int .i64 c1, .int .i64 c2, .int .i64 c3, .int .i64 c4]) (h : W.heap[b]? = some (.cells #[.int .i64 x0, .int .i64 x1, .int .i64 x2, .int .i64 x3, .int .i64 x4] 23 (0, 0))) : (execOp ev { dst := none, op := .store 23 (.tmp 8) (.tmp 48), type := 0, pos := ps, after := af, guard := none }).run Tryd.prog W = .ok .skip (((((W.setCell ⟨b, 0, none⟩ (.int .i64 c0)).setCell ⟨b, 1, none⟩ (.int .i64 c1)).setCell ⟨b, 2, none⟩ (.int .i64 c2)).setCell ⟨b, 3, none⟩ (.int .i64 c3)).setCell ⟨b, 4, none⟩ (.int .i64 c4)) := by
 have hu := Tryd.underlying23
 obtain ⟨a0, a1, a2, a3, a4⟩ := cc5_ h; obtain ⟨f0, f1, f2, f3, f4⟩ := cf5_ h; clear h
 go_simp
theorem cell5_ {W : World} {b : Nat} {c0 c1 c2 c3 c4 v : Value} {a : Addr} (h : a.block ≠ b) (hc : W.cell? a = some v) : (((((W.setCell ⟨b, 0, none⟩ c0).setCell ⟨b, 1, none⟩ c1).setCell ⟨b, 2, none⟩ c2).setCell ⟨b, 3, none⟩ c3).setCell ⟨b, 4, none⟩ c4).cell? a = some v :=
 (cell_far (p := ⟨b, 4, none⟩) h _).trans ((cell_far (p := ⟨b, 3, none⟩) h _).trans ((cell_far (p := ⟨b, 2, none⟩) h _).trans ((cell_far (p := ⟨b, 1, none⟩) h _).trans ((cell_far (p := ⟨b, 0, none⟩) h _).trans hc))))
set_option maxHeartbeats 8000000 in
set_option maxRecDepth 100000 in
theorem spec_OpRead.calls (k : Nat) (a0 : ByteArray) (r1 : Int) (r2 : Int) (r3 : Int) (r4 : Int) (r5 : Int) (r6 : Bool) (w : World) (h : spec_OpRead.f k a0 = some (r1, r2, r3, r4, r5, r6)) :
  Calls Tryd.prog 7 #[.string a0] w fun e w' => e = .returned (.tuple #[.agg #[.int .i64 r1, .int .i64 r2, .int .i64 r3, .int .i64 r4, .int .i64 r5], .bool r6]) ∧ Below w.heap.size w w' := by
 have hu23 := Tryd.underlying23; have HB := yad (Below.refl w.heap.size w); have H : ((spec_l7Cut.f k a0 46).bind fun c0 => (spec_OpRead.l0 k a0 c0 (([0, 0, 0, 0] : List Int)) 1)) = some (r1, r2, r3, r4, r5, r6) := h; clear h; obtain ⟨c0, A2, H⟩ := bindA H; (try dsimp only at H); obtain ⟨y105, hy105⟩ : ∃ y_ : List Int, y_ = (([0, 0, 0, 0] : List Int)) := ⟨_, rfl⟩
 replace H : (spec_OpRead.l0 k a0 c0 y105 1) = some (r1, r2, r3, r4, r5, r6) := by first | (rw [hy105]; with_reducible exact H) | (have H2_ := (Option.bind_some _ _).symm.trans H; rw [hy105]; with_reducible exact H2_) | (have H2_ := (Option.bind_some _ _).symm.trans H; with_reducible exact H2_) | with_reducible exact H | (rw [hy105]; exact H) | exact H
 have Ny105 := yad hy105; clear hy105; have HC3 := yad H; clear H
 go_enter Tryd.func7, Tryd.ntmps7
 go_upto_block 0 with (first | ((with_reducible refine gd_ 2 rfl ?_); refine bx_ 2 rfl #[.int .i64 0, .int .i64 0, .int .i64 0, .int .i64 0, .int .i64 0] 23 ?_; intro b8 hg w4 hbox hb; have a5 := yad (hbox); have e6 := yad ((by rw [hg]; exact (below_size (upH HB.out)) : w.heap.size ≤ b8)); replace HB := yad (below_step (upH HB.out) hb); have q8 := e6; clear hb hbox hg) | ((with_reducible refine gc_ 29 rfl ?_); refine gl_ (some 10) rfl Tryd.func29 #[.string a0, .int .u8 46] ?_; (with_reducible refine (spec_l7Cut.calls k a0 46 c0 _ A2.out).mono ?_); rintro e w5 ⟨q0, rfl, ho0, hb⟩; refine ⟨_, rfl, ?_⟩; have d0 := yad (Kd.R_lower ho0 (below_size (by repeat (with_reducible first | exact HB.out | apply yah | apply yaf | apply yag | refine yai ?_ (Aside0.out ‹_›))))); replace a5 := yad (blk_below (upB a5.out) hb); replace HB := yad (below_step (by repeat (with_reducible first | exact HB.out | apply yah | apply yaf | apply yag | refine yai ?_ (Aside0.out ‹_›))) hb); (try clear hb ho0)) | ((with_reducible refine gd_ 11 rfl ?_); refine Kd.R_lit (Kd.int .i64) _ 3 ?hg (N := 11) ?hd (xs := ([0, 0, 0, 0] : List Int)) (inner := [.int .i64 0, .int .i64 0, .int .i64 0, .int .i64 0]) (ok := fun _ => True) (okp := fun _ => True) ?hr ?hp (fun _ hk => hk) trivial (Below.refl _ _) (Nat.le_refl _) (by simp) ?_; (case hd => rfl); (case hg => rfl); (case hr => first | (go_simp; done) | (go_simp; rfl)); (case hp => exact (Reps.one (show Kd.M (Kd.int .i64) _ _ _ 0 [.int .i64 0] from rfl) (Reps.one (show Kd.M (Kd.int .i64) _ _ _ 0 [.int .i64 0] from rfl) (Reps.one (show Kd.M (Kd.int .i64) _ _ _ 0 [.int .i64 0] from rfl) (Reps.one (show Kd.M (Kd.int .i64) _ _ _ 0 [.int .i64 0] from rfl) (Reps.none _ _)))))); intro e4 w6 ho7 hb hg_ hnew_; clear hg_ hnew_; (first | rw [← Ny105.out] at ho7 | (simp only [Int.reduceToNat] at ho7; rw [← Ny105.out] at ho7)); replace d0 := yad (Kd.R_below (upR d0.out) hb); have e1 := yad (Kd.R_lower ho7 (below_size (by repeat (with_reducible first | exact HB.out | apply yah | apply yaf | apply yag | refine yai ?_ (Aside0.out ‹_›))))); replace a5 := yad (blk_below (upB a5.out) hb); replace HB := yad (below_step (by repeat (with_reducible first | exact HB.out | apply yah | apply yaf | apply yag | refine yai ?_ (Aside0.out ‹_›))) hb); clear hb ho7))
 (try simp only [Act.put, List.setIfInBounds_toArray, List.set_cons_zero, List.set_cons_succ])
 go_cut [] (fun wc => ∃ (kq : Nat) (a4 : List Int), Aside0 (spec_OpRead.j1 kq a0 a4 = some (r1, r2, r3, r4, r5, r6)) ∧ Aside0 (kq ≤ k) ∧ Aside0 (Kd.R (Kd.int .i64) 3 wc w.heap.size (fun _ => True) e4 a4) ∧ Aside0 (wc.heap[b8]? = some (.cells #[.int .i64 0, .int .i64 0, .int .i64 0, .int .i64 0, .int .i64 0] 23 (0, 0))) ∧ Aside0 (Below w.heap.size w wc))
 case first =>
  have H := HC3.out; clear HC3; have H' := yad H; clear H
  go_wp2
  (try simp only [Act.put, List.setIfInBounds_toArray, List.set_cons_zero, List.set_cons_succ])
  go_loopg [6] k (fun kq v6 w' => ∃ (c4 : List Int) (b9 : Int), v6 = .int .i64 b9 ∧ Aside0 (spec_OpRead.l0 kq a0 c0 c4 b9 = some (r1, r2, r3, r4, r5, r6)) ∧ Aside0 (kq ≤ k) ∧ Aside0 (Kd.R Kd.string 9 w' w.heap.size (fun _ => True) q0 c0) ∧ Aside0 (Kd.R (Kd.int .i64) 3 w' w.heap.size (fun _ => True) e4 c4) ∧ Aside0 (w'.heap[b8]? = some (.cells #[.int .i64 0, .int .i64 0, .int .i64 0, .int .i64 0, .int .i64 0] 23 (0, 0))) ∧ Aside0 (Below w.heap.size w w'))
  case atStart => exact ⟨(y105), (1), (by first | rfl | (simp; done) | (simp [*]; done)), H', ⟨Nat.le_refl _⟩, ⟨by first | exact d0.out | exact upR d0.out⟩, ⟨by first | exact e1.out | exact upR e1.out⟩, ⟨by exact upB a5.out⟩, ⟨by repeat (with_reducible first | exact HB.out | apply yah | apply yaf | apply yag | refine yai ?_ (Aside0.out ‹_›))⟩⟩
  case round =>
   clear H'; (try clear c2); (try clear p2); (try clear c7); obtain ⟨c4, b9, rfl, HA, HK1, c5, a2, a5, HB⟩ := hrel
   cases gk with
   | zero => exact absurd HA.out (by simp [spec_OpRead.l0])
   | succ k1 =>
    have H := HA.out; clear HA
    simp only [spec_OpRead.l0] at H
    by_cases c8 : b9 < (c0.length : Int)
    ·
     rw [if_pos c8] at H
     have c6 : decide (b9 < (c0.length : Int)) = true := decide_eq_true c8; clear c8
     (first | rw [c6] | (simp only [i64_w, i32_w]; rw [c6]) | skip)
     by_cases c9 : b9 < 5
     ·
      rw [if_pos c9] at H
      have e5 : decide (b9 < 5) = true := decide_eq_true c9; clear c9
      by_cases c10 : 0 ≤ b9
      ·
       rw [if_pos c10] at H
       replace c10 := decide_eq_true c10; obtain ⟨d2, A11, H⟩ := bindA H; (try dsimp only at H); obtain ⟨ji12, hji12⟩ : ∃ j_ : Int, (wrap64 (b9 - 1)) = j_ := ⟨_, rfl⟩
       replace H : (if 0 ≤ (ji12) then (if (ji12) < (c4.length : Int) then (spec_OpRead.l0 k1 a0 c0 (c4.set ((ji12) : Int).toNat d2) (wrap64 (b9 + 1))) else (none)) else (none)) = some (r1, r2, r3, r4, r5, r6) := by first | (rw [hji12] at H; exact H) | (simp only [hji12] at H ⊢; exact H)
       (try rw [hji12] at A11)
       have hji12w : (IntKind.i64.wrap (b9 - 1)) = ji12 := (i64_w _).trans hji12
       by_cases c13 : 0 ≤ (ji12)
       ·
        rw [if_pos c13] at H
        replace c13 := decide_eq_true c13
        by_cases c14 : (ji12) < (c4.length : Int)
        ·
         rw [if_pos c14] at H
         replace c14 := decide_eq_true c14; obtain ⟨y110, hy110⟩ : ∃ y_ : List Int, y_ = (c4.set ((ji12) : Int).toNat d2) := ⟨_, rfl⟩
         replace H : (spec_OpRead.l0 k1 a0 c0 y110 (wrap64 (b9 + 1))) = some (r1, r2, r3, r4, r5, r6) := by first | (rw [hy110]; with_reducible exact H) | (have H2_ := (Option.bind_some _ _).symm.trans H; rw [hy110]; with_reducible exact H2_) | (have H2_ := (Option.bind_some _ _).symm.trans H; with_reducible exact H2_) | with_reducible exact H | (rw [hy110]; exact H) | exact H
         have Ny110 := yad hy110; clear hy110; have H' := yad H; clear H; obtain ⟨u4, u5, q2⟩ := Kd.R_slice c5.out; subst q2; have p108 : 0 ≤ (b9 : Int) := of_decide_eq_true (by assumption); have q108 : b9 < (c0.length : Int) := of_decide_eq_true (by assumption); obtain ⟨ad108, q3, d1⟩ := Kd.at_string (yak c5.out).2.2 b9 p108 q108
         cases q3
         replace p108 := eq_true p108; replace q108 := eq_true q108
         go_wp2_with (first | ((with_reducible refine gc_ 30 rfl ?_); refine gl_ (some 29) rfl Tryd.func30 #[.string (rdOf ByteArray.empty c0 b9)] ?_; (with_reducible refine (spec_l7Num.calls k1 (rdOf ByteArray.empty c0 b9) d2 _ A11.out).mono ?_); rintro e w17 ⟨rfl, hb⟩; refine ⟨_, rfl, ?_⟩; replace c5 := yad (Kd.R_below (upR c5.out) hb); replace a2 := yad (Kd.R_below (upR a2.out) hb); replace a5 := yad (blk_below (upB a5.out) hb); replace HB := yad (below_step (by repeat (with_reducible first | exact HB.out | apply yah | apply yaf | apply yag | refine yai ?_ (Aside0.out ‹_›))) hb); (try clear hb); have p15 : 0 ≤ ((ji12) : Int) := of_decide_eq_true (by assumption); have q15 : ((ji12) : Int) < ((c4.length : Int) : Int) := of_decide_eq_true (by assumption); obtain ⟨go15, e7, e8, e9, gl15, u6, HG15⟩ := Kd.R_form a2.out (by omega); (first | cases e8 | (injection e8 with ea_ en_ ec_; (first | subst ea_ | (injection ea_ with ea_; subst ea_)); subst ec_; clear en_)); have GB15 := yad e9; have GG15 := yad HG15; clear e9 gl15 HG15; obtain ⟨d3, hf15_0⟩ := Kd.R_celln 0 a2.out ((ji12) : Int) p15 q15; replace p15 := eq_true p15; replace q15 := eq_true q15; obtain ⟨hy18_, hz18_⟩ := Kd.R_celln 0 a2.out ((ji12) : Int) (of_decide_eq_true (by assumption)) (of_decide_eq_true (by assumption)); have HP18 := Kd.R_putg a2.out ((ji12) : Int) d2) | ((with_reducible refine gate_store (t := 3) (p := 30) rfl ?_); refine store_event (t := 3) (p := 30) (v := ?vo_w19) (w1 := (w17.setCell ⟨go15, ((ji12) : Int).toNat, none⟩ (.int .i64 d2))) ?hg ?ho ?hn ?hr ?_; (case ho => rfl); (case hg => rfl); (case hn => rfl); (case hr => first | (go_simp; done) | (go_simp; rfl)); intro w19 hw; have hg : w17.grownBy w19 (some go15) := (by rw [hw]; exact HP18.2); have hp_ : Kd.R (Kd.int .i64) 3 w19 w.heap.size (fun _ => True) (.slice (some ⟨go15, 0, none⟩) c4.length e7) y110 := (by rw [hw, Ny110.out]; exact HP18.1); clear HP18; replace c5 := yad (Kd.R_over' (v := (.slice (some ⟨go15, 0, none⟩) c4.length e7)) (upR c5.out) (Kd.R_typed a2.out) (by decide) hg); replace a5 := yad (blk_grown (upB a5.out) hg (yab a2.out a5.out (by decide))); replace a2 := yad (hp_); replace HB := yad ((by rw [hw]; exact yai (HB.out) GB15.out : Below w.heap.size w w19)); clear hg hw hp_))
         go_roundg k1
         case measure => have := HK1.out; omega
         case rel => exact ⟨(y110), (wrap64 (b9 + 1)), (by first | rfl | (simp; done) | (simp [*]; done)), H', ⟨by have := HK1.out; omega⟩, ⟨by first | exact c5.out | exact upR c5.out⟩, ⟨by first | exact a2.out | exact upR a2.out⟩, ⟨by exact upB a5.out⟩, ⟨by repeat (with_reducible first | exact HB.out | apply yah | apply yaf | apply yag | refine yai ?_ (Aside0.out ‹_›))⟩⟩
        ·
         rw [if_neg c14] at H
         exact absurd H (by simp)
       ·
        rw [if_neg c13] at H
        exact absurd H (by simp)
      ·
       rw [if_neg c10] at H
       exact absurd H (by simp)
     ·
      rw [if_neg c9] at H
      have e5 : decide (b9 < 5) = false := decide_eq_false c9; clear c9; have H' := yad H; clear H; obtain ⟨u7, u9, q4⟩ := Kd.R_slice c5.out; subst q4
      go_wp2
      go_meet
      case rel => exact ⟨_, (c4), H', ⟨by have := HK1.out; first | omega | exact Nat.le_refl _⟩, ⟨by first | exact a2.out | exact upR a2.out⟩, ⟨by exact upB a5.out⟩, ⟨by repeat (with_reducible first | exact HB.out | apply yah | apply yaf | apply yag | refine yai ?_ (Aside0.out ‹_›))⟩⟩
    ·
     rw [if_neg c8] at H
     have c6 : decide (b9 < (c0.length : Int)) = false := decide_eq_false c8; clear c8
     (first | rw [c6] | (simp only [i64_w, i32_w]; rw [c6]) | skip)
     have H' := yad H; clear H; obtain ⟨v0, v1, q5⟩ := Kd.R_slice c5.out; subst q5
     go_wp2
     go_meet
     case rel => exact ⟨_, (c4), H', ⟨by have := HK1.out; first | omega | exact Nat.le_refl _⟩, ⟨by first | exact a2.out | exact upR a2.out⟩, ⟨by exact upB a5.out⟩, ⟨by repeat (with_reducible first | exact HB.out | apply yah | apply yaf | apply yag | refine yai ?_ (Aside0.out ‹_›))⟩⟩
 case rest =>
  clear HC3; (try clear c1); (try clear p1); (try clear q1); (try clear hx1); (try clear hf1); (try clear c2); (try clear p2); (try clear c3); (try clear p6); (try clear c7); (try clear c8); (try clear c6); (try clear c9); (try clear e5); (try clear c10); (try clear c10b0); (try clear p10); (try clear q10); (try clear hx10); (try clear c13); (try clear c13b0); (try clear c14); (try clear c14b0); (try clear p15); (try clear q15); (try clear hx15); (try clear hf15); (try clear d1); (try clear d3); (try clear p108); (try clear p15); (try clear p2); (try clear q108); (try clear q15); obtain ⟨kq, a4, HA, HJ2, a2, a5, HB⟩ := hcut
  cases kq with
  | zero => exact absurd HA.out (by simp [spec_OpRead.j1])
  | succ kj2 =>
   have H := HA.out; clear HA
   simp only [spec_OpRead.j1] at H
   have H' := yad H; clear H
   go_wp2
   (try simp only [Act.put, List.setIfInBounds_toArray, List.set_cons_zero, List.set_cons_succ])
   go_loopg [7] kj2 (fun kq v7 w' => ∃ (b2 : Int) (b7 : Int) (b1 : Int) (b0 : Int) (a9 : Int) (a8 : Int), v7 = .int .i64 b2 ∧ Aside0 (spec_OpRead.l1 kq a0 a4 b2 = some (r1, r2, r3, r4, r5, r6)) ∧ Aside0 (kq ≤ kj2) ∧ Aside0 (Kd.R (Kd.int .i64) 3 w' w.heap.size (fun _ => True) e4 a4) ∧ Aside0 (w'.heap[b8]? = some (.cells #[.int .i64 b7, .int .i64 b1, .int .i64 b0, .int .i64 a9, .int .i64 a8] 23 (0, 0))) ∧ Aside0 (Below w.heap.size w w'))
   case atStart => exact ⟨(1), (0), (0), (0), (0), (0), (by first | rfl | (simp; done) | (simp [*]; done)), H', ⟨Nat.le_refl _⟩, ⟨by first | exact a2.out | exact upR a2.out⟩, ⟨by exact upB a5.out⟩, ⟨by repeat (with_reducible first | exact HB.out | apply yah | apply yaf | apply yag | refine yai ?_ (Aside0.out ‹_›))⟩⟩
   case round =>
    clear H'; (try clear c1); (try clear p1); (try clear q1); (try clear hx1); (try clear hf1); (try clear c2); (try clear p2); (try clear c3); (try clear p6); (try clear c7); (try clear c8); (try clear c6); (try clear c9); (try clear e5); (try clear c10); (try clear c10b0); (try clear p10); (try clear q10); (try clear hx10); (try clear c13); (try clear c13b0); (try clear c14); (try clear c14b0); (try clear p15); (try clear q15); (try clear hx15); (try clear hf15); (try clear d1); (try clear d3); (try clear p1); (try clear p10); (try clear p108); (try clear p15); (try clear p2); (try clear p6); (try clear q1); (try clear q10); (try clear q108); (try clear q15); obtain ⟨b2, b7, b1, b0, a9, a8, rfl, HA, HK2, a2, a5, HB⟩ := hrel
    cases gk with
    | zero => exact absurd HA.out (by simp [spec_OpRead.l1])
    | succ k2 =>
     have H := HA.out; clear HA
     simp only [spec_OpRead.l1] at H
     by_cases c22 : b2 ≤ 8
     ·
      rw [if_pos c22] at H
      have f3 : decide (b2 ≤ 8) = true := decide_eq_true c22; clear c22
      by_cases c23 : 0 < (a4.length : Int)
      ·
       rw [if_pos c23] at H
       have q9 : decide (0 < (a4.length : Int)) = true := decide_eq_true c23; have r0 : decide (0 < a4.length) = true := decide_eq_true (by omega); clear c23
       by_cases c24 : 1 < (a4.length : Int)
       ·
        rw [if_pos c24] at H
        have r7 : decide (1 < (a4.length : Int)) = true := decide_eq_true c24; have r8 : decide (1 < a4.length) = true := decide_eq_true (by omega); clear c24
        by_cases c25 : 2 < (a4.length : Int)
        ·
         rw [if_pos c25] at H
         have r9 : decide (2 < (a4.length : Int)) = true := decide_eq_true c25; have s0 : decide (2 < a4.length) = true := decide_eq_true (by omega); clear c25
         by_cases c26 : 3 < (a4.length : Int)
         ·
          rw [if_pos c26] at H
          have s1 : decide (3 < (a4.length : Int)) = true := decide_eq_true c26; have s2 : decide (3 < a4.length) = true := decide_eq_true (by omega); clear c26; obtain ⟨d9, A27, H⟩ := bindA H; (try dsimp only at H)
          by_cases c28 : d9.toList = a0.toList
          ·
           rw [if_pos c28] at H
           have f4 := beq_iff_eq.mpr c28; have f5 := bne_eq_false_iff_eq.mpr c28; clear c28
           by_cases c29 : a0.toList = ([] : List UInt8)
           ·
            rw [if_pos c29] at H
            have f6 := beq_iff_eq.mpr c29; have f8 := bne_eq_false_iff_eq.mpr c29; clear c29; have H' := yad H; clear H
            try go_wp2
            replace a2 := yad (Kd.R_drew a2.out); replace a5 := yad (blk_drew a5.out); replace HB := yad (yag HB.out); obtain ⟨v2, v3, f9⟩ := Kd.R_slice a2.out
            (first | subst f9 | (injection f9 with f1_ f2_ f3_; have f4_ := f1_.symm; have f5_ := f3_.symm; clear f1_ f2_ f3_; subst f4_; subst f5_))
            have p111 : 0 ≤ (0 : Int) := (by omega); have q111 : 0 < (a4.length : Int) := of_decide_eq_true (by assumption); obtain ⟨ad111, d4, b3⟩ := Kd.at_int (yak a2.out).2.2 0 p111 q111
            cases d4
            have qi111 : (0 < a4.length) = True := eq_true (by omega)
            (try rw [show ((0 : Int)).toNat = 0 from rfl] at b3)
            (try rw [Addr.add_zero'] at b3)
            replace p111 := eq_true p111; replace q111 := eq_true q111; have p112 : 0 ≤ (1 : Int) := (by omega); have q112 : 1 < (a4.length : Int) := of_decide_eq_true (by assumption); obtain ⟨ad112, d5, b4⟩ := Kd.at_int (yak a2.out).2.2 1 p112 q112; obtain rfl : ad111 = ad112 := (by injection d5)
            (try simp only [show (1 : Int).toNat = 1 from rfl, Nat.reduceMul, Nat.reduceEqDiff, Go.Addr.add, ↓reduceIte] at b4)
            have qi112 : (1 < a4.length) = True := eq_true (by omega)
            (try rw [show ((1 : Int)).toNat = 1 from rfl] at b4)
            replace p112 := eq_true p112; replace q112 := eq_true q112; have p113 : 0 ≤ (2 : Int) := (by omega); have q113 : 2 < (a4.length : Int) := of_decide_eq_true (by assumption); obtain ⟨ad113, d6, b5⟩ := Kd.at_int (yak a2.out).2.2 2 p113 q113; obtain rfl : ad111 = ad113 := (by injection d6)
            (try simp only [show (2 : Int).toNat = 2 from rfl, Nat.reduceMul, Nat.reduceEqDiff, Go.Addr.add, ↓reduceIte] at b5)
            have qi113 : (2 < a4.length) = True := eq_true (by omega)
            (try rw [show ((2 : Int)).toNat = 2 from rfl] at b5)
            replace p113 := eq_true p113; replace q113 := eq_true q113; have p114 : 0 ≤ (3 : Int) := (by omega); have q114 : 3 < (a4.length : Int) := of_decide_eq_true (by assumption); obtain ⟨ad114, d7, b6⟩ := Kd.at_int (yak a2.out).2.2 3 p114 q114; obtain rfl : ad111 = ad114 := (by injection d7)
            (try simp only [show (3 : Int).toNat = 3 from rfl, Nat.reduceMul, Nat.reduceEqDiff, Go.Addr.add, ↓reduceIte] at b6)
            have qi114 : (3 < a4.length) = True := eq_true (by omega)
            (try rw [show ((3 : Int)).toNat = 3 from rfl] at b6)
            replace p114 := eq_true p114; replace q114 := eq_true q114
            refine start_ (n := 16) (S := fun w' => w'.cell? ad111 = some (.int .i64 (rd a4 0)) ∧ w'.cell? ⟨ad111.block, ad111.off + 1, none⟩ = some (.int .i64 (rd a4 1)) ∧ w'.cell? ⟨ad111.block, ad111.off + 2, none⟩ = some (.int .i64 (rd a4 2)) ∧ w'.cell? ⟨ad111.block, ad111.off + 3, none⟩ = some (.int .i64 (rd a4 3))) (ds := []) q7_0 (by kernel_rfl) rfl rfl ⟨b3, b4, b5, b6⟩ (fun hHeld => ?_); refine with_tabW spec_OpRead.tab10 spec_OpRead.bits10 (fun HT_ HW_ => ?_)
            generalize wr.drew = w30 at a2 a5 HB b3 b4 b5 b6 hHeld ⊢
            refine pz_ 0 35 q7_1 HT_ (by kernel_rfl) ?_
            refine pz_ 1 36 q7_2 HT_ (by kernel_rfl) ?_
            refine pz_ 2 37 q7_3 HT_ (by kernel_rfl) ?_
            refine pz_ 4 39 q7_4 HT_ (by kernel_rfl) ?_
            refine pz_ 5 40 q7_5 HT_ (by kernel_rfl) ?_
            refine pz_ 7 42 q7_6 HT_ (by kernel_rfl) ?_
            refine pz_ 8 43 q7_7 HT_ (by kernel_rfl) ?_
            refine pz_ 10 45 q7_8 HT_ (by kernel_rfl) ?_
            refine pz_ 11 46 q7_9 HT_ (by kernel_rfl) ?_
            refine tz_ 3 38 q7_10 HT_ HW_ (by kernel_rfl) hHeld ?_
            refine tz_ 6 41 q7_11 HT_ HW_ (by kernel_rfl) hHeld ?_
            refine tz_ 9 44 q7_12 HT_ HW_ (by kernel_rfl) hHeld ?_
            refine tz_ 12 47 q7_13 HT_ HW_ (by kernel_rfl) hHeld ?_
            refine pz_ 13 48 q7_14 HT_ (by kernel_rfl) ?_
            refine one_ (i := 14) (N := some 8) q7_15 rfl rfl (one_of HT_.out (by kernel_rfl)) (by decide) (fun K hK => ?_)
            refine box_step ?hg (N := 8) ?hd (cs := #[.int .i64 0, .int .i64 0, .int .i64 0, .int .i64 0, .int .i64 0]) (t := 23) ?hr ?_; (case hd => rfl); (case hg => rfl); (case hr => first | (go_simp; done) | (go_simp; rfl))
            intro a3 hg w32 hbox hb; have HS0_ := (hb.cell (World.block_lt_of_cell? _ _ (hHeld.1))).trans (hHeld.1); have HS1_ := (hb.cell (World.block_lt_of_cell? _ _ (hHeld.2.1))).trans (hHeld.2.1); have HS2_ := (hb.cell (World.block_lt_of_cell? _ _ (hHeld.2.2.1))).trans (hHeld.2.2.1); have HS3_ := (hb.cell (World.block_lt_of_cell? _ _ (hHeld.2.2.2))).trans (hHeld.2.2.2); have n0_ := yad (Kd.R_below (upR a2.out) hb); have n1_ := yad (blk_below (upB a5.out) hb)
            have n2_ := yad (below_step (by repeat (with_reducible first | exact HB.out | apply yah | apply yaf | apply yag | refine yai ?_ (Aside0.out ‹_›))) hb)
            have n3_ := yad (hbox)
            have n4_ := yad ((by rw [hg]; exact (below_size (by repeat (with_reducible first | exact HB.out | apply yah | apply yaf | apply yag | refine yai ?_ (Aside0.out ‹_›)))) : w.heap.size ≤ a3))
            have n5_ := yad ((by rw [hg]; exact (below_size (by repeat (with_reducible first | exact HB.out | apply yah | apply yaf | apply yag | refine yai ?_ (Aside0.out ‹_›)))) : w.heap.size ≤ a3))
            have n6_ := yad ((by rw [hg]; exact Nat.ne_of_lt (blk_lt (upB a5.out)) : b8 ≠ a3)); have n7_ := yad ((by rw [hg]; exact Nat.ne_of_gt (blk_lt (upB a5.out)) : a3 ≠ b8)); clear a2; clear a5; clear HB; have a2 := n0_; have a5 := n1_; have HB := n2_; have a1 := n3_; have e2 := n4_; have e3 := n5_; have a6 := n6_; have a7 := n7_; clear n0_ n1_ n2_ n3_ n4_ n5_ n6_ n7_; clear hb hbox hg
            refine hK.out _ _ ⟨HS0_, HS1_, HS2_, HS3_⟩ (fun hHeld => ?_)
            clear hK K
            refine norm_ (a' := ?_) ?_ ?_
            rotate_left
            ·
             show Act.put _ (some 8) _ = _
             simp only [Act.put, List.setIfInBounds_toArray, List.set_cons_zero, List.set_cons_succ, i64_w, i32_w]
             rfl
            refine one_ (i := 15) (N := none) q7_16 rfl rfl (one_of HT_.out (by kernel_rfl)) (by decide) (fun K hK => ?_)
            have v4 : w32.cell? ⟨a3, 0, none⟩ = some (.int .i64 0) := (blk_cell a1.out 0).trans rfl; have s3 := yaj a1.out 0; have g2 := a6.out; have g3 := a7.out; have v5 : w32.cell? ⟨a3, 1, none⟩ = some (.int .i64 0) := (blk_cell a1.out 1).trans rfl; have s4 := yaj a1.out 1; have g4 := a6.out; have g5 := a7.out; have v8 : w32.cell? ⟨a3, 2, none⟩ = some (.int .i64 0) := (blk_cell a1.out 2).trans rfl; have s5 := yaj a1.out 2; have g6 := a6.out; have g7 := a7.out; have v9 : w32.cell? ⟨a3, 3, none⟩ = some (.int .i64 0) := (blk_cell a1.out 3).trans rfl; have s6 := yaj a1.out 3; have g8 := a6.out; have g9 := a7.out; have w0 : w32.cell? ⟨a3, 4, none⟩ = some (.int .i64 0) := (blk_cell a1.out 4).trans rfl; have s7 := yaj a1.out 4; have h0 := a6.out; have h1 := a7.out
            refine skip_ (by rfl) rfl (st5_ (b := a3) (c0 := b2) (c1 := (rd a4 0)) (c2 := (rd a4 1)) (c3 := (rd a4 2)) (c4 := (rd a4 3)) rfl rfl a1.out) ?_
            have hne_ := yaa (yab a2.out a1.out (by decide))
            refine hK.out _ _ ⟨cell5_ hne_ hHeld.1, cell5_ hne_ hHeld.2.1, cell5_ hne_ hHeld.2.2.1, cell5_ hne_ hHeld.2.2.2⟩ (fun hHeld => ?_)
            clear hK K
            refine done_ (done_of HT_.out (by kernel_rfl)) ?_
            have s8 := a7.out; have s9 := a6.out; obtain ⟨h2, h3, h4, h5, h6⟩ := cc5_ a1.out; obtain ⟨h7, h8, h9, i0, i1⟩ := cf5_ a1.out
            try go_wp2_with (first | ((with_reducible refine gd_ 49 rfl ?_); refine Kd.event_run rfl (ld5_ (b := a3) 49 (x0 := b2) (x1 := (rd a4 0)) (x2 := (rd a4 1)) (x3 := (rd a4 2)) (x4 := (rd a4 3)) rfl (by (repeat refine oneB ?_); refine yal (cs := #[.int .i64 b2, .int .i64 (rd a4 0), .int .i64 (rd a4 1), .int .i64 (rd a4 2), .int .i64 0]) ?_ 4 _ rfl; refine yal (cs := #[.int .i64 b2, .int .i64 (rd a4 0), .int .i64 (rd a4 1), .int .i64 0, .int .i64 0]) ?_ 3 _ rfl; refine yal (cs := #[.int .i64 b2, .int .i64 (rd a4 0), .int .i64 0, .int .i64 0, .int .i64 0]) ?_ 2 _ rfl; refine yal (cs := #[.int .i64 b2, .int .i64 0, .int .i64 0, .int .i64 0, .int .i64 0]) ?_ 1 _ rfl; refine yal (cs := #[.int .i64 0, .int .i64 0, .int .i64 0, .int .i64 0, .int .i64 0]) ?_ 0 _ rfl; exact upB a1.out)) ?_) | ((with_reducible refine gc_ 13 rfl ?_); refine gl_ (some 50) rfl Tryd.func13 #[.agg #[.int .i64 b2, .int .i64 (rd a4 0), .int .i64 (rd a4 1), .int .i64 (rd a4 2), .int .i64 (rd a4 3)]] ?_; (with_reducible refine (spec_OpText.calls k2 b2 (rd a4 0) (rd a4 1) (rd a4 2) (rd a4 3) d9 _ A27.out).mono ?_); rintro e w40 ⟨rfl, hb⟩; refine ⟨_, rfl, ?_⟩; replace a2 := yad (Kd.R_below (by (with_reducible repeat (first | apply Kd.R_alloc | apply Kd.R_drewN | apply Kd.R_drew)); exact (Kd.R_mono (Kd.R_far (p := ⟨a3, 4, none⟩) (Kd.R_far (p := ⟨a3, 3, none⟩) (Kd.R_far (p := ⟨a3, 2, none⟩) (Kd.R_far (p := ⟨a3, 1, none⟩) (Kd.R_far (p := ⟨a3, 0, none⟩) (Kd.R_types a2.out a1.out (by decide)) (fun _ hk => hk.2) (.int .i64 b2)) (fun _ hk => hk.2) (.int .i64 (rd a4 0))) (fun _ hk => hk.2) (.int .i64 (rd a4 1))) (fun _ hk => hk.2) (.int .i64 (rd a4 2))) (fun _ hk => hk.2) (.int .i64 (rd a4 3))) (fun _ h_ => h_.1))) hb); replace a5 := yad (blk_below (g := b8) (o := .cells #[.int .i64 b7, .int .i64 b1, .int .i64 b0, .int .i64 a9, .int .i64 a8] 23 (0, 0)) (by repeat (with_reducible first | exact a5.out | refine oneB ?_ | refine blk_far ?_ a6.out _)) hb); replace a1 := yad (blk_below (g := a3) (o := .cells #[.int .i64 b2, .int .i64 (rd a4 0), .int .i64 (rd a4 1), .int .i64 (rd a4 2), .int .i64 (rd a4 3)] 23 (0, 0)) (by (repeat refine oneB ?_); refine yal (cs := #[.int .i64 b2, .int .i64 (rd a4 0), .int .i64 (rd a4 1), .int .i64 (rd a4 2), .int .i64 0]) ?_ 4 _ rfl; refine yal (cs := #[.int .i64 b2, .int .i64 (rd a4 0), .int .i64 (rd a4 1), .int .i64 0, .int .i64 0]) ?_ 3 _ rfl; refine yal (cs := #[.int .i64 b2, .int .i64 (rd a4 0), .int .i64 0, .int .i64 0, .int .i64 0]) ?_ 2 _ rfl; refine yal (cs := #[.int .i64 b2, .int .i64 0, .int .i64 0, .int .i64 0, .int .i64 0]) ?_ 1 _ rfl; refine yal (cs := #[.int .i64 0, .int .i64 0, .int .i64 0, .int .i64 0, .int .i64 0]) ?_ 0 _ rfl; exact upB a1.out) hb); replace HB := yad (below_step (by repeat (with_reducible first | exact HB.out | apply yah | apply yaf | apply yag | refine yai ?_ (Aside0.out ‹_›))) hb); (try clear hb)))
            go_roundg k2
            case measure => have := HJ2.out; have := HK2.out; omega
            case rel => exact ⟨(wrap64 (b2 + 1)), (b7), (b1), (b0), (a9), (a8), (by first | rfl | (simp; done) | (simp [*]; done)), H', ⟨by have := HJ2.out; have := HK2.out; omega⟩, ⟨by first | exact a2.out | exact upR a2.out⟩, ⟨by exact upB a5.out⟩, ⟨by repeat (with_reducible first | exact HB.out | apply yah | apply yaf | apply yag | refine yai ?_ (Aside0.out ‹_›))⟩⟩
           ·
            rw [if_neg c29] at H
            have f6 := beq_eq_false_iff_ne.mpr c29; have f8 := bne_iff_ne.mpr c29
            simp only [Option.some.injEq, Prod.mk.injEq] at H
            obtain ⟨rfl, rfl, rfl, rfl, rfl, rfl⟩ := H
            try go_wp2
            replace a2 := yad (Kd.R_drew a2.out); replace a5 := yad (blk_drew a5.out); replace HB := yad (yag HB.out); obtain ⟨w2, w3, g0⟩ := Kd.R_slice a2.out
            (first | subst g0 | (injection g0 with f1_ f2_ f3_; have f4_ := f1_.symm; have f5_ := f3_.symm; clear f1_ f2_ f3_; subst f4_; subst f5_))
            have p111 : 0 ≤ (0 : Int) := (by omega); have q111 : 0 < (a4.length : Int) := of_decide_eq_true (by assumption); obtain ⟨ad111, d4, b3⟩ := Kd.at_int (yak a2.out).2.2 0 p111 q111
            cases d4
            have qi111 : (0 < a4.length) = True := eq_true (by omega)
            (try rw [show ((0 : Int)).toNat = 0 from rfl] at b3)
            (try rw [Addr.add_zero'] at b3)
            replace p111 := eq_true p111; replace q111 := eq_true q111; have p112 : 0 ≤ (1 : Int) := (by omega); have q112 : 1 < (a4.length : Int) := of_decide_eq_true (by assumption); obtain ⟨ad112, d5, b4⟩ := Kd.at_int (yak a2.out).2.2 1 p112 q112; obtain rfl : ad111 = ad112 := (by injection d5)
            (try simp only [show (1 : Int).toNat = 1 from rfl, Nat.reduceMul, Nat.reduceEqDiff, Go.Addr.add, ↓reduceIte] at b4)
            have qi112 : (1 < a4.length) = True := eq_true (by omega)
            (try rw [show ((1 : Int)).toNat = 1 from rfl] at b4)
            replace p112 := eq_true p112; replace q112 := eq_true q112; have p113 : 0 ≤ (2 : Int) := (by omega); have q113 : 2 < (a4.length : Int) := of_decide_eq_true (by assumption); obtain ⟨ad113, d6, b5⟩ := Kd.at_int (yak a2.out).2.2 2 p113 q113; obtain rfl : ad111 = ad113 := (by injection d6)
            (try simp only [show (2 : Int).toNat = 2 from rfl, Nat.reduceMul, Nat.reduceEqDiff, Go.Addr.add, ↓reduceIte] at b5)
            have qi113 : (2 < a4.length) = True := eq_true (by omega)
            (try rw [show ((2 : Int)).toNat = 2 from rfl] at b5)
            replace p113 := eq_true p113; replace q113 := eq_true q113; have p114 : 0 ≤ (3 : Int) := (by omega); have q114 : 3 < (a4.length : Int) := of_decide_eq_true (by assumption); obtain ⟨ad114, d7, b6⟩ := Kd.at_int (yak a2.out).2.2 3 p114 q114; obtain rfl : ad111 = ad114 := (by injection d7)
            (try simp only [show (3 : Int).toNat = 3 from rfl, Nat.reduceMul, Nat.reduceEqDiff, Go.Addr.add, ↓reduceIte] at b6)
            have qi114 : (3 < a4.length) = True := eq_true (by omega)
            (try rw [show ((3 : Int)).toNat = 3 from rfl] at b6)
            replace p114 := eq_true p114; replace q114 := eq_true q114
            refine start_ (n := 16) (S := fun w' => w'.cell? ad111 = some (.int .i64 (rd a4 0)) ∧ w'.cell? ⟨ad111.block, ad111.off + 1, none⟩ = some (.int .i64 (rd a4 1)) ∧ w'.cell? ⟨ad111.block, ad111.off + 2, none⟩ = some (.int .i64 (rd a4 2)) ∧ w'.cell? ⟨ad111.block, ad111.off + 3, none⟩ = some (.int .i64 (rd a4 3))) (ds := []) q7_0 (by kernel_rfl) rfl rfl ⟨b3, b4, b5, b6⟩ (fun hHeld => ?_); refine with_tabW spec_OpRead.tab10 spec_OpRead.bits10 (fun HT_ HW_ => ?_)
            generalize wr.drew = w41 at a2 a5 HB b3 b4 b5 b6 hHeld ⊢
            refine pz_ 0 35 q7_1 HT_ (by kernel_rfl) ?_
            refine pz_ 1 36 q7_2 HT_ (by kernel_rfl) ?_
            refine pz_ 2 37 q7_3 HT_ (by kernel_rfl) ?_
            refine pz_ 4 39 q7_4 HT_ (by kernel_rfl) ?_
            refine pz_ 5 40 q7_5 HT_ (by kernel_rfl) ?_
            refine pz_ 7 42 q7_6 HT_ (by kernel_rfl) ?_
            refine pz_ 8 43 q7_7 HT_ (by kernel_rfl) ?_
            refine pz_ 10 45 q7_8 HT_ (by kernel_rfl) ?_
            refine pz_ 11 46 q7_9 HT_ (by kernel_rfl) ?_
            refine tz_ 3 38 q7_10 HT_ HW_ (by kernel_rfl) hHeld ?_
            refine tz_ 6 41 q7_11 HT_ HW_ (by kernel_rfl) hHeld ?_
            refine tz_ 9 44 q7_12 HT_ HW_ (by kernel_rfl) hHeld ?_
            refine tz_ 12 47 q7_13 HT_ HW_ (by kernel_rfl) hHeld ?_
            refine pz_ 13 48 q7_14 HT_ (by kernel_rfl) ?_
            refine one_ (i := 14) (N := some 8) q7_15 rfl rfl (one_of HT_.out (by kernel_rfl)) (by decide) (fun K hK => ?_)
            refine box_step ?hg (N := 8) ?hd (cs := #[.int .i64 0, .int .i64 0, .int .i64 0, .int .i64 0, .int .i64 0]) (t := 23) ?hr ?_; (case hd => rfl); (case hg => rfl); (case hr => first | (go_simp; done) | (go_simp; rfl))
            intro a3 hg w43 hbox hb; have HS0_ := (hb.cell (World.block_lt_of_cell? _ _ (hHeld.1))).trans (hHeld.1); have HS1_ := (hb.cell (World.block_lt_of_cell? _ _ (hHeld.2.1))).trans (hHeld.2.1); have HS2_ := (hb.cell (World.block_lt_of_cell? _ _ (hHeld.2.2.1))).trans (hHeld.2.2.1); have HS3_ := (hb.cell (World.block_lt_of_cell? _ _ (hHeld.2.2.2))).trans (hHeld.2.2.2); have n0_ := yad (Kd.R_below (upR a2.out) hb); have n1_ := yad (blk_below (upB a5.out) hb)
            have n2_ := yad (below_step (by repeat (with_reducible first | exact HB.out | apply yah | apply yaf | apply yag | refine yai ?_ (Aside0.out ‹_›))) hb)
            have n3_ := yad (hbox)
            have n4_ := yad ((by rw [hg]; exact (below_size (by repeat (with_reducible first | exact HB.out | apply yah | apply yaf | apply yag | refine yai ?_ (Aside0.out ‹_›)))) : w.heap.size ≤ a3))
            have n5_ := yad ((by rw [hg]; exact (below_size (by repeat (with_reducible first | exact HB.out | apply yah | apply yaf | apply yag | refine yai ?_ (Aside0.out ‹_›)))) : w.heap.size ≤ a3))
            have n6_ := yad ((by rw [hg]; exact Nat.ne_of_lt (blk_lt (upB a5.out)) : b8 ≠ a3)); have n7_ := yad ((by rw [hg]; exact Nat.ne_of_gt (blk_lt (upB a5.out)) : a3 ≠ b8)); clear a2; clear a5; clear HB; have a2 := n0_; have a5 := n1_; have HB := n2_; have a1 := n3_; have e2 := n4_; have e3 := n5_; have a6 := n6_; have a7 := n7_; clear n0_ n1_ n2_ n3_ n4_ n5_ n6_ n7_; clear hb hbox hg
            refine hK.out _ _ ⟨HS0_, HS1_, HS2_, HS3_⟩ (fun hHeld => ?_)
            clear hK K
            refine norm_ (a' := ?_) ?_ ?_
            rotate_left
            ·
             show Act.put _ (some 8) _ = _
             simp only [Act.put, List.setIfInBounds_toArray, List.set_cons_zero, List.set_cons_succ, i64_w, i32_w]
             rfl
            refine one_ (i := 15) (N := none) q7_16 rfl rfl (one_of HT_.out (by kernel_rfl)) (by decide) (fun K hK => ?_)
            have w7 : w43.cell? ⟨a3, 0, none⟩ = some (.int .i64 0) := (blk_cell a1.out 0).trans rfl; have t0 := yaj a1.out 0; have i2 := a6.out; have i3 := a7.out; have w8 : w43.cell? ⟨a3, 1, none⟩ = some (.int .i64 0) := (blk_cell a1.out 1).trans rfl; have t1 := yaj a1.out 1; have i4 := a6.out; have i5 := a7.out; have w9 : w43.cell? ⟨a3, 2, none⟩ = some (.int .i64 0) := (blk_cell a1.out 2).trans rfl; have t2 := yaj a1.out 2; have i6 := a6.out; have i7 := a7.out; have x1 : w43.cell? ⟨a3, 3, none⟩ = some (.int .i64 0) := (blk_cell a1.out 3).trans rfl; have t3 := yaj a1.out 3; have i8 := a6.out; have i9 := a7.out; have x2 : w43.cell? ⟨a3, 4, none⟩ = some (.int .i64 0) := (blk_cell a1.out 4).trans rfl; have t4 := yaj a1.out 4; have j0 := a6.out; have j2 := a7.out
            refine skip_ (by rfl) rfl (st5_ (b := a3) (c0 := b2) (c1 := (rd a4 0)) (c2 := (rd a4 1)) (c3 := (rd a4 2)) (c4 := (rd a4 3)) rfl rfl a1.out) ?_
            have hne_ := yaa (yab a2.out a1.out (by decide))
            refine hK.out _ _ ⟨cell5_ hne_ hHeld.1, cell5_ hne_ hHeld.2.1, cell5_ hne_ hHeld.2.2.1, cell5_ hne_ hHeld.2.2.2⟩ (fun hHeld => ?_)
            clear hK K
            refine done_ (done_of HT_.out (by kernel_rfl)) ?_
            have t5 := a7.out; have t6 := a6.out; obtain ⟨j3, j4, j5, j6, j7⟩ := cc5_ a1.out; obtain ⟨j8, j9, k0, k3, k4⟩ := cf5_ a1.out
            try go_wp2_with (first | ((with_reducible refine gd_ 49 rfl ?_); refine Kd.event_run rfl (ld5_ (b := a3) 49 (x0 := b2) (x1 := (rd a4 0)) (x2 := (rd a4 1)) (x3 := (rd a4 2)) (x4 := (rd a4 3)) rfl (by (repeat refine oneB ?_); refine yal (cs := #[.int .i64 b2, .int .i64 (rd a4 0), .int .i64 (rd a4 1), .int .i64 (rd a4 2), .int .i64 0]) ?_ 4 _ rfl; refine yal (cs := #[.int .i64 b2, .int .i64 (rd a4 0), .int .i64 (rd a4 1), .int .i64 0, .int .i64 0]) ?_ 3 _ rfl; refine yal (cs := #[.int .i64 b2, .int .i64 (rd a4 0), .int .i64 0, .int .i64 0, .int .i64 0]) ?_ 2 _ rfl; refine yal (cs := #[.int .i64 b2, .int .i64 0, .int .i64 0, .int .i64 0, .int .i64 0]) ?_ 1 _ rfl; refine yal (cs := #[.int .i64 0, .int .i64 0, .int .i64 0, .int .i64 0, .int .i64 0]) ?_ 0 _ rfl; exact upB a1.out)) ?_) | ((with_reducible refine gc_ 13 rfl ?_); refine gl_ (some 50) rfl Tryd.func13 #[.agg #[.int .i64 b2, .int .i64 (rd a4 0), .int .i64 (rd a4 1), .int .i64 (rd a4 2), .int .i64 (rd a4 3)]] ?_; (with_reducible refine (spec_OpText.calls k2 b2 (rd a4 0) (rd a4 1) (rd a4 2) (rd a4 3) d9 _ A27.out).mono ?_); rintro e w51 ⟨rfl, hb⟩; refine ⟨_, rfl, ?_⟩; replace a2 := yad (Kd.R_below (by (with_reducible repeat (first | apply Kd.R_alloc | apply Kd.R_drewN | apply Kd.R_drew)); exact (Kd.R_mono (Kd.R_far (p := ⟨a3, 4, none⟩) (Kd.R_far (p := ⟨a3, 3, none⟩) (Kd.R_far (p := ⟨a3, 2, none⟩) (Kd.R_far (p := ⟨a3, 1, none⟩) (Kd.R_far (p := ⟨a3, 0, none⟩) (Kd.R_types a2.out a1.out (by decide)) (fun _ hk => hk.2) (.int .i64 b2)) (fun _ hk => hk.2) (.int .i64 (rd a4 0))) (fun _ hk => hk.2) (.int .i64 (rd a4 1))) (fun _ hk => hk.2) (.int .i64 (rd a4 2))) (fun _ hk => hk.2) (.int .i64 (rd a4 3))) (fun _ h_ => h_.1))) hb); replace a5 := yad (blk_below (g := b8) (o := .cells #[.int .i64 b7, .int .i64 b1, .int .i64 b0, .int .i64 a9, .int .i64 a8] 23 (0, 0)) (by repeat (with_reducible first | exact a5.out | refine oneB ?_ | refine blk_far ?_ a6.out _)) hb); replace a1 := yad (blk_below (g := a3) (o := .cells #[.int .i64 b2, .int .i64 (rd a4 0), .int .i64 (rd a4 1), .int .i64 (rd a4 2), .int .i64 (rd a4 3)] 23 (0, 0)) (by (repeat refine oneB ?_); refine yal (cs := #[.int .i64 b2, .int .i64 (rd a4 0), .int .i64 (rd a4 1), .int .i64 (rd a4 2), .int .i64 0]) ?_ 4 _ rfl; refine yal (cs := #[.int .i64 b2, .int .i64 (rd a4 0), .int .i64 (rd a4 1), .int .i64 0, .int .i64 0]) ?_ 3 _ rfl; refine yal (cs := #[.int .i64 b2, .int .i64 (rd a4 0), .int .i64 0, .int .i64 0, .int .i64 0]) ?_ 2 _ rfl; refine yal (cs := #[.int .i64 b2, .int .i64 0, .int .i64 0, .int .i64 0, .int .i64 0]) ?_ 1 _ rfl; refine yal (cs := #[.int .i64 0, .int .i64 0, .int .i64 0, .int .i64 0, .int .i64 0]) ?_ 0 _ rfl; exact upB a1.out) hb); replace HB := yad (below_step (by repeat (with_reducible first | exact HB.out | apply yah | apply yaf | apply yag | refine yai ?_ (Aside0.out ‹_›))) hb); (try clear hb); obtain ⟨k5, k6, k7, k8, k9⟩ := cc5_ a1.out; obtain ⟨l2, l3, l4, l5, l6⟩ := cf5_ a1.out; obtain ⟨l7, l8, l9, m0, m1⟩ := cc5_ a5.out; obtain ⟨m2, m3, m4, m5⟩ := cf4_ a5.out; have m6 := yaj a5.out 4))
            refine bodyPost_ret (results_ct rfl _ _ b8 23 #[.int .i64 b2, .int .i64 (rd a4 0), .int .i64 (rd a4 1), .int .i64 (rd a4 2), .int .i64 (rd a4 3)] (0, 0) _ rfl (by (repeat refine oneB ?_); refine yal (cs := #[.int .i64 b2, .int .i64 (rd a4 0), .int .i64 (rd a4 1), .int .i64 (rd a4 2), .int .i64 a8]) ?_ 4 _ rfl; refine yal (cs := #[.int .i64 b2, .int .i64 (rd a4 0), .int .i64 (rd a4 1), .int .i64 a9, .int .i64 a8]) ?_ 3 _ rfl; refine yal (cs := #[.int .i64 b2, .int .i64 (rd a4 0), .int .i64 b0, .int .i64 a9, .int .i64 a8]) ?_ 2 _ rfl; refine yal (cs := #[.int .i64 b2, .int .i64 b1, .int .i64 b0, .int .i64 a9, .int .i64 a8]) ?_ 1 _ rfl; refine yal (cs := #[.int .i64 b7, .int .i64 b1, .int .i64 b0, .int .i64 a9, .int .i64 a8]) ?_ 0 _ rfl; exact upB a5.out) Tryd.underlying23 rfl (by kernel_rfl)) rfl ?_
            exact ⟨by first | rfl | (simp [*, errW_none, errW_some] <;> rfl), by repeat (with_reducible first | exact HB.out | apply yah | apply yaf | apply yag | refine yai ?_ (Aside0.out ‹_›))⟩
          ·
           rw [if_neg c28] at H
           have f4 := beq_eq_false_iff_ne.mpr c28; have f5 := bne_iff_ne.mpr c28; have H' := yad H; clear H
           try go_wp2
           replace a2 := yad (Kd.R_drew a2.out); replace a5 := yad (blk_drew a5.out); replace HB := yad (yag HB.out); obtain ⟨x8, x9, g1⟩ := Kd.R_slice a2.out
           (first | subst g1 | (injection g1 with f1_ f2_ f3_; have f4_ := f1_.symm; have f5_ := f3_.symm; clear f1_ f2_ f3_; subst f4_; subst f5_))
           have p111 : 0 ≤ (0 : Int) := (by omega); have q111 : 0 < (a4.length : Int) := of_decide_eq_true (by assumption); obtain ⟨ad111, d4, b3⟩ := Kd.at_int (yak a2.out).2.2 0 p111 q111
           cases d4
           have qi111 : (0 < a4.length) = True := eq_true (by omega)
           (try rw [show ((0 : Int)).toNat = 0 from rfl] at b3)
           (try rw [Addr.add_zero'] at b3)
           replace p111 := eq_true p111; replace q111 := eq_true q111; have p112 : 0 ≤ (1 : Int) := (by omega); have q112 : 1 < (a4.length : Int) := of_decide_eq_true (by assumption); obtain ⟨ad112, d5, b4⟩ := Kd.at_int (yak a2.out).2.2 1 p112 q112; obtain rfl : ad111 = ad112 := (by injection d5)
           (try simp only [show (1 : Int).toNat = 1 from rfl, Nat.reduceMul, Nat.reduceEqDiff, Go.Addr.add, ↓reduceIte] at b4)
           have qi112 : (1 < a4.length) = True := eq_true (by omega)
           (try rw [show ((1 : Int)).toNat = 1 from rfl] at b4)
           replace p112 := eq_true p112; replace q112 := eq_true q112; have p113 : 0 ≤ (2 : Int) := (by omega); have q113 : 2 < (a4.length : Int) := of_decide_eq_true (by assumption); obtain ⟨ad113, d6, b5⟩ := Kd.at_int (yak a2.out).2.2 2 p113 q113; obtain rfl : ad111 = ad113 := (by injection d6)
           (try simp only [show (2 : Int).toNat = 2 from rfl, Nat.reduceMul, Nat.reduceEqDiff, Go.Addr.add, ↓reduceIte] at b5)
           have qi113 : (2 < a4.length) = True := eq_true (by omega)
           (try rw [show ((2 : Int)).toNat = 2 from rfl] at b5)
           replace p113 := eq_true p113; replace q113 := eq_true q113; have p114 : 0 ≤ (3 : Int) := (by omega); have q114 : 3 < (a4.length : Int) := of_decide_eq_true (by assumption); obtain ⟨ad114, d7, b6⟩ := Kd.at_int (yak a2.out).2.2 3 p114 q114; obtain rfl : ad111 = ad114 := (by injection d7)
           (try simp only [show (3 : Int).toNat = 3 from rfl, Nat.reduceMul, Nat.reduceEqDiff, Go.Addr.add, ↓reduceIte] at b6)
           have qi114 : (3 < a4.length) = True := eq_true (by omega)
           (try rw [show ((3 : Int)).toNat = 3 from rfl] at b6)
           replace p114 := eq_true p114; replace q114 := eq_true q114
           refine start_ (n := 16) (S := fun w' => w'.cell? ad111 = some (.int .i64 (rd a4 0)) ∧ w'.cell? ⟨ad111.block, ad111.off + 1, none⟩ = some (.int .i64 (rd a4 1)) ∧ w'.cell? ⟨ad111.block, ad111.off + 2, none⟩ = some (.int .i64 (rd a4 2)) ∧ w'.cell? ⟨ad111.block, ad111.off + 3, none⟩ = some (.int .i64 (rd a4 3))) (ds := []) q7_0 (by kernel_rfl) rfl rfl ⟨b3, b4, b5, b6⟩ (fun hHeld => ?_); refine with_tabW spec_OpRead.tab10 spec_OpRead.bits10 (fun HT_ HW_ => ?_)
           generalize wr.drew = w54 at a2 a5 HB b3 b4 b5 b6 hHeld ⊢
           refine pz_ 0 35 q7_1 HT_ (by kernel_rfl) ?_
           refine pz_ 1 36 q7_2 HT_ (by kernel_rfl) ?_
           refine pz_ 2 37 q7_3 HT_ (by kernel_rfl) ?_
           refine pz_ 4 39 q7_4 HT_ (by kernel_rfl) ?_
           refine pz_ 5 40 q7_5 HT_ (by kernel_rfl) ?_
           refine pz_ 7 42 q7_6 HT_ (by kernel_rfl) ?_
           refine pz_ 8 43 q7_7 HT_ (by kernel_rfl) ?_
           refine pz_ 10 45 q7_8 HT_ (by kernel_rfl) ?_
           refine pz_ 11 46 q7_9 HT_ (by kernel_rfl) ?_
           refine tz_ 3 38 q7_10 HT_ HW_ (by kernel_rfl) hHeld ?_
           refine tz_ 6 41 q7_11 HT_ HW_ (by kernel_rfl) hHeld ?_
           refine tz_ 9 44 q7_12 HT_ HW_ (by kernel_rfl) hHeld ?_
           refine tz_ 12 47 q7_13 HT_ HW_ (by kernel_rfl) hHeld ?_
           refine pz_ 13 48 q7_14 HT_ (by kernel_rfl) ?_
           refine one_ (i := 14) (N := some 8) q7_15 rfl rfl (one_of HT_.out (by kernel_rfl)) (by decide) (fun K hK => ?_)
           refine box_step ?hg (N := 8) ?hd (cs := #[.int .i64 0, .int .i64 0, .int .i64 0, .int .i64 0, .int .i64 0]) (t := 23) ?hr ?_; (case hd => rfl); (case hg => rfl); (case hr => first | (go_simp; done) | (go_simp; rfl))
           intro a3 hg w56 hbox hb; have HS0_ := (hb.cell (World.block_lt_of_cell? _ _ (hHeld.1))).trans (hHeld.1); have HS1_ := (hb.cell (World.block_lt_of_cell? _ _ (hHeld.2.1))).trans (hHeld.2.1); have HS2_ := (hb.cell (World.block_lt_of_cell? _ _ (hHeld.2.2.1))).trans (hHeld.2.2.1); have HS3_ := (hb.cell (World.block_lt_of_cell? _ _ (hHeld.2.2.2))).trans (hHeld.2.2.2); have n0_ := yad (Kd.R_below (upR a2.out) hb); have n1_ := yad (blk_below (upB a5.out) hb)
           have n2_ := yad (below_step (by repeat (with_reducible first | exact HB.out | apply yah | apply yaf | apply yag | refine yai ?_ (Aside0.out ‹_›))) hb)
           have n3_ := yad (hbox)
           have n4_ := yad ((by rw [hg]; exact (below_size (by repeat (with_reducible first | exact HB.out | apply yah | apply yaf | apply yag | refine yai ?_ (Aside0.out ‹_›)))) : w.heap.size ≤ a3))
           have n5_ := yad ((by rw [hg]; exact (below_size (by repeat (with_reducible first | exact HB.out | apply yah | apply yaf | apply yag | refine yai ?_ (Aside0.out ‹_›)))) : w.heap.size ≤ a3))
           have n6_ := yad ((by rw [hg]; exact Nat.ne_of_lt (blk_lt (upB a5.out)) : b8 ≠ a3)); have n7_ := yad ((by rw [hg]; exact Nat.ne_of_gt (blk_lt (upB a5.out)) : a3 ≠ b8)); clear a2; clear a5; clear HB; have a2 := n0_; have a5 := n1_; have HB := n2_; have a1 := n3_; have e2 := n4_; have e3 := n5_; have a6 := n6_; have a7 := n7_; clear n0_ n1_ n2_ n3_ n4_ n5_ n6_ n7_; clear hb hbox hg
           refine hK.out _ _ ⟨HS0_, HS1_, HS2_, HS3_⟩ (fun hHeld => ?_)
           clear hK K
           refine norm_ (a' := ?_) ?_ ?_
           rotate_left
           ·
            show Act.put _ (some 8) _ = _
            simp only [Act.put, List.setIfInBounds_toArray, List.set_cons_zero, List.set_cons_succ, i64_w, i32_w]
            rfl
           refine one_ (i := 15) (N := none) q7_16 rfl rfl (one_of HT_.out (by kernel_rfl)) (by decide) (fun K hK => ?_)
           have y4 : w56.cell? ⟨a3, 0, none⟩ = some (.int .i64 0) := (blk_cell a1.out 0).trans rfl; have t7 := yaj a1.out 0; have m7 := a6.out; have m8 := a7.out; have y5 : w56.cell? ⟨a3, 1, none⟩ = some (.int .i64 0) := (blk_cell a1.out 1).trans rfl; have t8 := yaj a1.out 1; have m9 := a6.out; have n0 := a7.out; have y6 : w56.cell? ⟨a3, 2, none⟩ = some (.int .i64 0) := (blk_cell a1.out 2).trans rfl; have t9 := yaj a1.out 2; have n1 := a6.out; have n2 := a7.out; have y7 : w56.cell? ⟨a3, 3, none⟩ = some (.int .i64 0) := (blk_cell a1.out 3).trans rfl; have u0 := yaj a1.out 3; have n3 := a6.out; have n4 := a7.out; have y8 : w56.cell? ⟨a3, 4, none⟩ = some (.int .i64 0) := (blk_cell a1.out 4).trans rfl; have u1 := yaj a1.out 4; have n5 := a6.out; have n6 := a7.out
           refine skip_ (by rfl) rfl (st5_ (b := a3) (c0 := b2) (c1 := (rd a4 0)) (c2 := (rd a4 1)) (c3 := (rd a4 2)) (c4 := (rd a4 3)) rfl rfl a1.out) ?_
           have hne_ := yaa (yab a2.out a1.out (by decide))
           refine hK.out _ _ ⟨cell5_ hne_ hHeld.1, cell5_ hne_ hHeld.2.1, cell5_ hne_ hHeld.2.2.1, cell5_ hne_ hHeld.2.2.2⟩ (fun hHeld => ?_)
           clear hK K
           refine done_ (done_of HT_.out (by kernel_rfl)) ?_
           have u2 := a7.out; have u3 := a6.out; obtain ⟨n7, n8, n9, o0, o1⟩ := cc5_ a1.out; obtain ⟨o2, o3, o4, o5, o6⟩ := cf5_ a1.out
           try go_wp2_with (first | ((with_reducible refine gd_ 49 rfl ?_); refine Kd.event_run rfl (ld5_ (b := a3) 49 (x0 := b2) (x1 := (rd a4 0)) (x2 := (rd a4 1)) (x3 := (rd a4 2)) (x4 := (rd a4 3)) rfl (by (repeat refine oneB ?_); refine yal (cs := #[.int .i64 b2, .int .i64 (rd a4 0), .int .i64 (rd a4 1), .int .i64 (rd a4 2), .int .i64 0]) ?_ 4 _ rfl; refine yal (cs := #[.int .i64 b2, .int .i64 (rd a4 0), .int .i64 (rd a4 1), .int .i64 0, .int .i64 0]) ?_ 3 _ rfl; refine yal (cs := #[.int .i64 b2, .int .i64 (rd a4 0), .int .i64 0, .int .i64 0, .int .i64 0]) ?_ 2 _ rfl; refine yal (cs := #[.int .i64 b2, .int .i64 0, .int .i64 0, .int .i64 0, .int .i64 0]) ?_ 1 _ rfl; refine yal (cs := #[.int .i64 0, .int .i64 0, .int .i64 0, .int .i64 0, .int .i64 0]) ?_ 0 _ rfl; exact upB a1.out)) ?_) | ((with_reducible refine gc_ 13 rfl ?_); refine gl_ (some 50) rfl Tryd.func13 #[.agg #[.int .i64 b2, .int .i64 (rd a4 0), .int .i64 (rd a4 1), .int .i64 (rd a4 2), .int .i64 (rd a4 3)]] ?_; (with_reducible refine (spec_OpText.calls k2 b2 (rd a4 0) (rd a4 1) (rd a4 2) (rd a4 3) d9 _ A27.out).mono ?_); rintro e w64 ⟨rfl, hb⟩; refine ⟨_, rfl, ?_⟩; replace a2 := yad (Kd.R_below (by (with_reducible repeat (first | apply Kd.R_alloc | apply Kd.R_drewN | apply Kd.R_drew)); exact (Kd.R_mono (Kd.R_far (p := ⟨a3, 4, none⟩) (Kd.R_far (p := ⟨a3, 3, none⟩) (Kd.R_far (p := ⟨a3, 2, none⟩) (Kd.R_far (p := ⟨a3, 1, none⟩) (Kd.R_far (p := ⟨a3, 0, none⟩) (Kd.R_types a2.out a1.out (by decide)) (fun _ hk => hk.2) (.int .i64 b2)) (fun _ hk => hk.2) (.int .i64 (rd a4 0))) (fun _ hk => hk.2) (.int .i64 (rd a4 1))) (fun _ hk => hk.2) (.int .i64 (rd a4 2))) (fun _ hk => hk.2) (.int .i64 (rd a4 3))) (fun _ h_ => h_.1))) hb); replace a5 := yad (blk_below (g := b8) (o := .cells #[.int .i64 b7, .int .i64 b1, .int .i64 b0, .int .i64 a9, .int .i64 a8] 23 (0, 0)) (by repeat (with_reducible first | exact a5.out | refine oneB ?_ | refine blk_far ?_ a6.out _)) hb); replace a1 := yad (blk_below (g := a3) (o := .cells #[.int .i64 b2, .int .i64 (rd a4 0), .int .i64 (rd a4 1), .int .i64 (rd a4 2), .int .i64 (rd a4 3)] 23 (0, 0)) (by (repeat refine oneB ?_); refine yal (cs := #[.int .i64 b2, .int .i64 (rd a4 0), .int .i64 (rd a4 1), .int .i64 (rd a4 2), .int .i64 0]) ?_ 4 _ rfl; refine yal (cs := #[.int .i64 b2, .int .i64 (rd a4 0), .int .i64 (rd a4 1), .int .i64 0, .int .i64 0]) ?_ 3 _ rfl; refine yal (cs := #[.int .i64 b2, .int .i64 (rd a4 0), .int .i64 0, .int .i64 0, .int .i64 0]) ?_ 2 _ rfl; refine yal (cs := #[.int .i64 b2, .int .i64 0, .int .i64 0, .int .i64 0, .int .i64 0]) ?_ 1 _ rfl; refine yal (cs := #[.int .i64 0, .int .i64 0, .int .i64 0, .int .i64 0, .int .i64 0]) ?_ 0 _ rfl; exact upB a1.out) hb); replace HB := yad (below_step (by repeat (with_reducible first | exact HB.out | apply yah | apply yaf | apply yag | refine yai ?_ (Aside0.out ‹_›))) hb); (try clear hb)))
           go_roundg k2
           case measure => have := HJ2.out; have := HK2.out; omega
           case rel => exact ⟨(wrap64 (b2 + 1)), (b7), (b1), (b0), (a9), (a8), (by first | rfl | (simp; done) | (simp [*]; done)), H', ⟨by have := HJ2.out; have := HK2.out; omega⟩, ⟨by first | exact a2.out | exact upR a2.out⟩, ⟨by exact upB a5.out⟩, ⟨by repeat (with_reducible first | exact HB.out | apply yah | apply yaf | apply yag | refine yai ?_ (Aside0.out ‹_›))⟩⟩
         ·
          rw [if_neg c26] at H
          exact absurd H (by simp)
        ·
         rw [if_neg c25] at H
         exact absurd H (by simp)
       ·
        rw [if_neg c24] at H
        exact absurd H (by simp)
      ·
       rw [if_neg c23] at H
       exact absurd H (by simp)
     ·
      rw [if_neg c22] at H
      have f3 : decide (b2 ≤ 8) = false := decide_eq_false c22; clear c22
      simp only [Option.some.injEq, Prod.mk.injEq] at H
      obtain ⟨rfl, rfl, rfl, rfl, rfl, rfl⟩ := H; obtain ⟨o7, o8, o9, p0, p3⟩ := cc5_ a5.out; obtain ⟨p4, p5, p7, p8, p9⟩ := cf5_ a5.out
      go_wp2
      refine bodyPost_ret (results_ct rfl _ _ b8 23 #[.int .i64 0, .int .i64 0, .int .i64 0, .int .i64 0, .int .i64 0] (0, 0) _ rfl (by (repeat refine oneB ?_); refine yal (cs := #[.int .i64 0, .int .i64 0, .int .i64 0, .int .i64 0, .int .i64 a8]) ?_ 4 _ rfl; refine yal (cs := #[.int .i64 0, .int .i64 0, .int .i64 0, .int .i64 a9, .int .i64 a8]) ?_ 3 _ rfl; refine yal (cs := #[.int .i64 0, .int .i64 0, .int .i64 b0, .int .i64 a9, .int .i64 a8]) ?_ 2 _ rfl; refine yal (cs := #[.int .i64 0, .int .i64 b1, .int .i64 b0, .int .i64 a9, .int .i64 a8]) ?_ 1 _ rfl; refine yal (cs := #[.int .i64 b7, .int .i64 b1, .int .i64 b0, .int .i64 a9, .int .i64 a8]) ?_ 0 _ rfl; exact upB a5.out) Tryd.underlying23 rfl (by kernel_rfl)) rfl ?_
      exact ⟨by first | rfl | (simp [*, errW_none, errW_some] <;> rfl), by repeat (with_reducible first | exact HB.out | apply yah | apply yaf | apply yag | refine yai ?_ (Aside0.out ‹_›))⟩
end
section
open Go.Proofs.YtfafjpfigphchaaDoorW.PrintWords.Aside0 renaming mk → yaa
open Go.Proofs.YtfafjpfigphchaaDoorW.PrintWords.Kd renaming R_far → yab

def spec_l7Read.l0 : Nat → List (S23) → List ByteArray → Int → Option ((List (S23)) × Bool)
 | 0, _, _, _ => none
 | k + 1, x4, x5, x6 => if x6 < (x5.length : Int) then (if 0 ≤ x6 then ((spec_OpRead.f k (rdOf ByteArray.empty x5 x6)).bind fun bt108 => (if bt108.2.2.2.2.2 = true then (if x4.length < 3518437208883 then (spec_l7Read.l0 k (x4 ++ [(⟨bt108.1, bt108.2.1, bt108.2.2.1, bt108.2.2.2.1, bt108.2.2.2.2.1⟩ : S23)]) x5 (wrap64 (x6 + 1))) else (none)) else (some ((([] : List (S23))), false)))) else (none)) else (some (x4, true))
def spec_l7Read.f (k : Nat) (a0 : ByteArray) : Option ((List (S23)) × Bool) := (some (([] : List (S23)) : List (S23))).bind fun y101 => (if a0.toList = ([45] : List UInt8) then (some (y101, true)) else ((spec_l7Cut.f k a0 44).bind fun t104 => (spec_l7Read.l0 k y101 t104 0)))
set_option maxHeartbeats 8000000 in
set_option maxRecDepth 100000 in
theorem spec_l7Read.calls (k : Nat) (a0 : ByteArray) (r1 : List (S23)) (r2 : Bool) (w : World) (h : spec_l7Read.f k a0 = some (r1, r2)) :
  Calls Tryd.prog 48 #[.string a0] w fun e w' => ∃ v0_ : Value, e = .returned (.tuple #[v0_, .bool r2]) ∧ Kd.R k23 23 w' w.heap.size (fun _ => True) v0_ r1 ∧ Below w.heap.size w w' := by
 have hu23 := Tryd.underlying23; have HB := yaa (Below.refl w.heap.size w); have H : ((some (([] : List (S23)) : List (S23))).bind fun y101 => (if a0.toList = ([45] : List UInt8) then (some (y101, true)) else ((spec_l7Cut.f k a0 44).bind fun b1 => (spec_l7Read.l0 k y101 b1 0)))) = some (r1, r2) := h; clear h; obtain ⟨y101, hy101, H⟩ := bindY H; (try dsimp only at H); have Ny101 := yaa hy101; clear hy101
 by_cases c2 : a0.toList = ([45] : List UInt8)
 ·
  rw [if_pos c2] at H
  have b9 := beq_iff_eq.mpr c2; have c0 := bne_eq_false_iff_eq.mpr c2; clear c2
  simp only [Option.some.injEq, Prod.mk.injEq] at H
  obtain ⟨rfl, rfl⟩ := H
  go_enter Tryd.func48, Tryd.ntmps48
  go_wp2_with (first | ((with_reducible refine gd_ 9 rfl ?_); refine Kd.R_lit k23 _ 23 ?hg (N := 9) ?hd (xs := ([] : List (S23))) (inner := []) (ok := fun _ => True) (okp := fun _ => True) ?hr ?hp (fun _ hk => hk) trivial (Below.refl _ _) (Nat.le_refl _) (by simp) ?_; (case hd => rfl); (case hg => rfl); (case hr => first | (go_simp; done) | (go_simp; rfl)); (case hp => exact (Reps.none _ _)); intro e7 w3 ho4 hb hg_ hnew_; clear hg_ hnew_; (first | rw [← Ny101.out] at ho4 | (simp only [Int.reduceToNat] at ho4; rw [← Ny101.out] at ho4)); have b2 := yaa (Kd.R_lower ho4 (below_size (upH HB.out))); replace HB := yaa (below_step (upH HB.out) hb); clear hb ho4))
  go_ret2
  exact ⟨_, by first | rfl | (simp [*, errW_none, errW_some] <;> rfl), by first | exact b2.out | exact upR b2.out, upH HB.out⟩
 ·
  rw [if_neg c2] at H
  have b9 := beq_eq_false_iff_ne.mpr c2; have c0 := bne_iff_ne.mpr c2; obtain ⟨b1, A5, H⟩ := bindA H; (try dsimp only at H); have H' := yaa H; clear H
  go_enter Tryd.func48, Tryd.ntmps48
  go_wp2_with (first | ((with_reducible refine gd_ 9 rfl ?_); refine Kd.R_lit k23 _ 23 ?hg (N := 9) ?hd (xs := ([] : List (S23))) (inner := []) (ok := fun _ => True) (okp := fun _ => True) ?hr ?hp (fun _ hk => hk) trivial (Below.refl _ _) (Nat.le_refl _) (by simp) ?_; (case hd => rfl); (case hg => rfl); (case hr => first | (go_simp; done) | (go_simp; rfl)); (case hp => exact (Reps.none _ _)); intro e7 w6 ho7 hb hg_ hnew_; clear hg_ hnew_; (first | rw [← Ny101.out] at ho7 | (simp only [Int.reduceToNat] at ho7; rw [← Ny101.out] at ho7)); have b2 := yaa (Kd.R_lower ho7 (below_size (upH HB.out))); replace HB := yaa (below_step (upH HB.out) hb); clear hb ho7) | ((with_reducible refine gc_ 29 rfl ?_); refine gl_ (some 14) rfl Tryd.func29 #[.string a0, .int .u8 44] ?_; (with_reducible refine (spec_l7Cut.calls k a0 44 b1 _ A5.out).mono ?_); rintro e w8 ⟨e8, rfl, ho0, hb⟩; refine ⟨_, rfl, ?_⟩; replace b2 := yaa (Kd.R_below (upR b2.out) hb); have b7 := yaa (Kd.R_lower ho0 (below_size (upH HB.out))); replace HB := yaa (below_step (upH HB.out) hb); (try clear hb ho0)))
  (try simp only [Act.put, List.setIfInBounds_toArray, List.set_cons_zero, List.set_cons_succ])
  go_loopg [4, 6] k (fun kq v4 v6 w' => ∃ (b3 : List (S23)) (a7 : Int), v6 = .int .i64 a7 ∧ Aside0 (spec_l7Read.l0 kq b3 b1 a7 = some (r1, r2)) ∧ Aside0 (kq ≤ k) ∧ Aside0 (Kd.R k23 23 w' w.heap.size (fun _ => True) v4 b3) ∧ Aside0 (Kd.R Kd.string 9 w' w.heap.size (fun _ => True) e8 b1) ∧ Aside0 (Below w.heap.size w w'))
  case atStart => exact ⟨(y101), (0), (by first | rfl | (simp; done) | (simp [*]; done)), H', ⟨Nat.le_refl _⟩, ⟨by first | exact b2.out | exact upR b2.out⟩, ⟨by first | exact b7.out | exact upR b7.out⟩, ⟨upH HB.out⟩⟩
  case round =>
   clear H'; (try clear c2); (try clear b9); (try clear c0); (try clear p2); (try clear c4); obtain ⟨b3, a7, rfl, HA, HK1, a9, a8, HB⟩ := hrel
   cases gk with
   | zero => exact absurd HA.out (by simp [spec_l7Read.l0])
   | succ k1 =>
    have H := HA.out; clear HA
    simp only [spec_l7Read.l0] at H
    by_cases c9 : a7 < (b1.length : Int)
    ·
     rw [if_pos c9] at H
     have e9 : decide (a7 < (b1.length : Int)) = true := decide_eq_true c9; clear c9
     by_cases c10 : 0 ≤ a7
     ·
      rw [if_pos c10] at H
      replace c10 := decide_eq_true c10; obtain ⟨⟨a2, a3, a4, a6, b0, f0⟩, A11, H⟩ := bindA H; (try dsimp only at H)
      by_cases c12 : f0 = true
      ·
       subst c12
       rw [if_pos rfl] at H
       by_cases c13 : b3.length < 3518437208883
       ·
        rw [if_pos c13] at H
        have LMc13 := yaa c13; clear c13; obtain ⟨y115, hy115⟩ : ∃ y_ : List (S23), y_ = (b3 ++ [(⟨a2, a3, a4, a6, b0⟩ : S23)]) := ⟨_, rfl⟩
        replace H : (spec_l7Read.l0 k1 y115 b1 (wrap64 (a7 + 1))) = some (r1, r2) := by first | (rw [hy115]; with_reducible exact H) | (have H2_ := (Option.bind_some _ _).symm.trans H; rw [hy115]; with_reducible exact H2_) | (have H2_ := (Option.bind_some _ _).symm.trans H; with_reducible exact H2_) | with_reducible exact H | (rw [hy115]; exact H) | exact H
        have Ny115 := yaa hy115; clear hy115; have H' := yaa H; clear H; obtain ⟨f6, f7, f1⟩ := Kd.R_slice a8.out; subst f1; have p107 : 0 ≤ (a7 : Int) := of_decide_eq_true (by assumption); have q107 : a7 < (b1.length : Int) := of_decide_eq_true (by assumption); obtain ⟨ad107, b8, b6⟩ := Kd.at_string (Kd.R_reads' a8.out).2.2 a7 p107 q107
        cases b8
        replace p107 := eq_true p107; replace q107 := eq_true q107
        go_wp2_with (first | ((with_reducible refine gc_ 7 rfl ?_); refine gl_ (some 26) rfl Tryd.func7 #[.string (rdOf ByteArray.empty b1 a7)] ?_; (with_reducible refine (spec_OpRead.calls k1 (rdOf ByteArray.empty b1 a7) a2 a3 a4 a6 b0 true _ A11.out).mono ?_); rintro e w15 ⟨rfl, hb⟩; refine ⟨_, rfl, ?_⟩; replace a9 := yaa (Kd.R_below (upR a9.out) hb); replace a8 := yaa (Kd.R_below (upR a8.out) hb); replace HB := yaa (below_step (upH HB.out) hb); (try clear hb)) | ((with_reducible refine gd_ 7 rfl ?_); refine bx_ 7 rfl #[.int .i64 0, .int .i64 0, .int .i64 0, .int .i64 0, .int .i64 0] 23 ?_; intro a1 hg w16 hbox hb; replace a9 := yaa (Kd.R_below (Kd.R_elderB (upR a9.out) a1 (Nat.le_of_eq hg.symm)) hb); replace a8 := yaa (Kd.R_below (upR a8.out) hb); have a5 := yaa (hbox); have b5 := yaa ((by rw [hg]; exact (below_size (upH HB.out)) : w.heap.size ≤ a1)); replace HB := yaa (below_step (upH HB.out) hb); have c1 := b5; clear hb hbox hg; obtain ⟨c6, c7, c8, d0, d1⟩ := cc5_ a5.out; obtain ⟨d2, d3, d4, d5⟩ := cf4_ a5.out; have d6 := blk_frozen a5.out 4) | ((with_reducible refine gate_builtin (b := .append) (xs := #[.tmp 32, .tmp 34]) rfl ?_); at_builtin; refine Kd.R_append k23 (w0 := w) w.heap.size rfl (.tmp 32) (.tmp 34) 35 23 (.agg #[(.int .i64 0), (.int .i64 0), (.int .i64 0), (.int .i64 0), (.int .i64 0)]) 40 rfl Tryd.underlying35 info23 rfl (by decide) (by omega) u4 b3 (⟨a2, a3, a4, a6, b0⟩ : S23) [.int .i64 a2, .int .i64 a3, .int .i64 a4, .int .i64 a6, .int .i64 b0] (fun k_ => k_ ≠ a1) (fun _ => False) rfl (by first | (go_simp; done) | (go_simp; rfl)) ?aP (fun _ hk => hk.elim) ?aF ?aO ?aB ?aS ?aL ?_; (case aP => exact k23_mkM _ _ _ (⟨a2, a3, a4, a6, b0⟩ : S23)); (case aB => exact (by repeat (with_reducible first | exact HB.out | apply below_alloc | apply pw_below_drewN | apply below_drew1 | refine below_set ?_ (Aside0.out ‹_›)))); (case aF => exact (fun k_ hk => Kd.freshB (g := a1) (o := .cells #[.int .i64 a2, .int .i64 a3, .int .i64 a4, .int .i64 a6, .int .i64 b0] 23 (0, 0)) (by (repeat refine oneB ?_); refine blk_put (cs := #[.int .i64 a2, .int .i64 a3, .int .i64 a4, .int .i64 a6, .int .i64 0]) ?_ 4 _ rfl; refine blk_put (cs := #[.int .i64 a2, .int .i64 a3, .int .i64 a4, .int .i64 0, .int .i64 0]) ?_ 3 _ rfl; refine blk_put (cs := #[.int .i64 a2, .int .i64 a3, .int .i64 0, .int .i64 0, .int .i64 0]) ?_ 2 _ rfl; refine blk_put (cs := #[.int .i64 a2, .int .i64 0, .int .i64 0, .int .i64 0, .int .i64 0]) ?_ 1 _ rfl; refine blk_put (cs := #[.int .i64 0, .int .i64 0, .int .i64 0, .int .i64 0, .int .i64 0]) ?_ 0 _ rfl; exact upB a5.out) k_ hk)); (case aO => exact (by (with_reducible repeat (first | apply Kd.R_alloc | apply Kd.R_drewN | apply Kd.R_drew)); exact Kd.R_mono (yab (p := ⟨a1, 4, none⟩) (yab (p := ⟨a1, 3, none⟩) (yab (p := ⟨a1, 2, none⟩) (yab (p := ⟨a1, 1, none⟩) (yab (p := ⟨a1, 0, none⟩) (Kd.R_mono a9.out (fun k_ hk => (⟨hk, hk.2⟩ : _ ∧ k_ ≠ a1))) (fun _ hk => hk.2) (.int .i64 a2)) (fun _ hk => hk.2) (.int .i64 a3)) (fun _ hk => hk.2) (.int .i64 a4)) (fun _ hk => hk.2) (.int .i64 a6)) (fun _ hk => hk.2) (.int .i64 b0)) (fun _ hk => hk.1.2))); (case aS => exact (below_size (by repeat (with_reducible first | exact HB.out | apply below_alloc | apply pw_below_drewN | apply below_drew1 | refine below_set ?_ (Aside0.out ‹_›))))); (case aL => have := LMc13.out; omega); intro f8 w18 ho hb hg hat; rw [← Ny115.out] at ho; replace a8 := yaa (Kd.R_over' (by (with_reducible repeat (first | apply Kd.R_alloc | apply Kd.R_drewN | apply Kd.R_drew)); exact (Kd.R_mono (yab (p := ⟨a1, 4, none⟩) (yab (p := ⟨a1, 3, none⟩) (yab (p := ⟨a1, 2, none⟩) (yab (p := ⟨a1, 1, none⟩) (yab (p := ⟨a1, 0, none⟩) (Kd.R_types a8.out a5.out (by decide)) (fun _ hk => hk.2) (.int .i64 a2)) (fun _ hk => hk.2) (.int .i64 a3)) (fun _ hk => hk.2) (.int .i64 a4)) (fun _ hk => hk.2) (.int .i64 a6)) (fun _ hk => hk.2) (.int .i64 b0)) (fun _ h_ => h_.1))) (Kd.R_typed (by (with_reducible repeat (first | apply Kd.R_alloc | apply Kd.R_drewN | apply Kd.R_drew)); exact (Kd.R_mono (yab (p := ⟨a1, 4, none⟩) (yab (p := ⟨a1, 3, none⟩) (yab (p := ⟨a1, 2, none⟩) (yab (p := ⟨a1, 1, none⟩) (yab (p := ⟨a1, 0, none⟩) (Kd.R_mono a9.out (fun k_ hk => (⟨hk, hk.2⟩ : _ ∧ k_ ≠ a1))) (fun _ hk => hk.2) (.int .i64 a2)) (fun _ hk => hk.2) (.int .i64 a3)) (fun _ hk => hk.2) (.int .i64 a4)) (fun _ hk => hk.2) (.int .i64 a6)) (fun _ hk => hk.2) (.int .i64 b0)) (fun _ h_ => h_.1)))) (by decide) hg); replace a5 := yaa (blk_grown (g := a1) (o := .cells #[.int .i64 a2, .int .i64 a3, .int .i64 a4, .int .i64 a6, .int .i64 b0] 23 (0, 0)) (by (repeat refine oneB ?_); refine blk_put (cs := #[.int .i64 a2, .int .i64 a3, .int .i64 a4, .int .i64 a6, .int .i64 0]) ?_ 4 _ rfl; refine blk_put (cs := #[.int .i64 a2, .int .i64 a3, .int .i64 a4, .int .i64 0, .int .i64 0]) ?_ 3 _ rfl; refine blk_put (cs := #[.int .i64 a2, .int .i64 a3, .int .i64 0, .int .i64 0, .int .i64 0]) ?_ 2 _ rfl; refine blk_put (cs := #[.int .i64 a2, .int .i64 0, .int .i64 0, .int .i64 0, .int .i64 0]) ?_ 1 _ rfl; refine blk_put (cs := #[.int .i64 0, .int .i64 0, .int .i64 0, .int .i64 0, .int .i64 0]) ?_ 0 _ rfl; exact upB a5.out) hg (Kd.R_away a9.out (fun _ hk => hk.2))); replace HB := yaa (hb); have c3 := yaa (ho); clear a9; clear ho hb hg hat))
        go_roundg k1
        case measure => have := HK1.out; omega
        case rel => exact ⟨(y115), (wrap64 (a7 + 1)), (by first | rfl | (simp; done) | (simp [*]; done)), H', ⟨by have := HK1.out; omega⟩, ⟨by (with_reducible repeat (first | apply Kd.R_alloc | apply Kd.R_drewN | apply Kd.R_drew)); exact Kd.R_mono c3.out (fun _ hk => trivial)⟩, ⟨by first | exact a8.out | exact upR a8.out⟩, ⟨by repeat (with_reducible first | exact HB.out | apply below_alloc | apply pw_below_drewN | apply below_drew1 | refine below_set ?_ (Aside0.out ‹_›))⟩⟩
       ·
        rw [if_neg c13] at H
        exact absurd H (by simp)
      ·
       replace c12 := Bool.eq_false_iff.mpr c12
       subst c12
       rw [if_neg (show ¬ (false = true) by decide)] at H
       obtain ⟨y118, hy118⟩ : ∃ y_ : List (S23), y_ = (([] : List (S23))) := ⟨_, rfl⟩
       replace H : (some (y118, false)) = some (r1, r2) := by first | (rw [hy118]; with_reducible exact H) | (have H2_ := (Option.bind_some _ _).symm.trans H; rw [hy118]; with_reducible exact H2_) | (have H2_ := (Option.bind_some _ _).symm.trans H; with_reducible exact H2_) | with_reducible exact H | (rw [hy118]; exact H) | exact H
       have Ny118 := yaa hy118; clear hy118
       simp only [Option.some.injEq, Prod.mk.injEq] at H
       obtain ⟨rfl, rfl⟩ := H; obtain ⟨f9, g0, f4⟩ := Kd.R_slice a8.out; subst f4; have p107 : 0 ≤ (a7 : Int) := of_decide_eq_true (by assumption); have q107 : a7 < (b1.length : Int) := of_decide_eq_true (by assumption); obtain ⟨ad107, b8, b6⟩ := Kd.at_string (Kd.R_reads' a8.out).2.2 a7 p107 q107
       cases b8
       replace p107 := eq_true p107; replace q107 := eq_true q107
       go_wp2_with (first | ((with_reducible refine gc_ 7 rfl ?_); refine gl_ (some 26) rfl Tryd.func7 #[.string (rdOf ByteArray.empty b1 a7)] ?_; (with_reducible refine (spec_OpRead.calls k1 (rdOf ByteArray.empty b1 a7) a2 a3 a4 a6 b0 false _ A11.out).mono ?_); rintro e w20 ⟨rfl, hb⟩; refine ⟨_, rfl, ?_⟩; replace a9 := yaa (Kd.R_below (upR a9.out) hb); replace a8 := yaa (Kd.R_below (upR a8.out) hb); replace HB := yaa (below_step (upH HB.out) hb); (try clear hb)) | ((with_reducible refine gd_ 7 rfl ?_); refine bx_ 7 rfl #[.int .i64 0, .int .i64 0, .int .i64 0, .int .i64 0, .int .i64 0] 23 ?_; intro a1 hg w21 hbox hb; replace a9 := yaa (Kd.R_below (Kd.R_elderB (upR a9.out) a1 (Nat.le_of_eq hg.symm)) hb); replace a8 := yaa (Kd.R_below (upR a8.out) hb); have a5 := yaa (hbox); have b5 := yaa ((by rw [hg]; exact (below_size (upH HB.out)) : w.heap.size ≤ a1)); replace HB := yaa (below_step (upH HB.out) hb); have c1 := b5; clear hb hbox hg; obtain ⟨d7, d8, d9, e0, e1⟩ := cc5_ a5.out; obtain ⟨e2, e3, e4, e5⟩ := cf4_ a5.out; have e6 := blk_frozen a5.out 4) | ((with_reducible refine gd_ 31 rfl ?_); refine Kd.R_lit k23 _ 23 ?hg (N := 31) ?hd (xs := ([] : List (S23))) (inner := []) (ok := fun _ => True) (okp := fun _ => True) ?hr ?hp (fun _ hk => hk) trivial (Below.refl _ _) (Nat.le_refl _) (by simp) ?_; (case hd => rfl); (case hg => rfl); (case hr => first | (go_simp; done) | (go_simp; rfl)); (case hp => exact (Reps.none _ _)); intro g1 w23 b4 hb hg_ hnew_; clear hg_ hnew_; (first | rw [← Ny118.out] at b4 | (simp only [Int.reduceToNat] at b4; rw [← Ny118.out] at b4)); replace a8 := yaa (Kd.R_below (by (with_reducible repeat (first | apply Kd.R_alloc | apply Kd.R_drewN | apply Kd.R_drew)); exact (Kd.R_mono (yab (p := ⟨a1, 4, none⟩) (yab (p := ⟨a1, 3, none⟩) (yab (p := ⟨a1, 2, none⟩) (yab (p := ⟨a1, 1, none⟩) (yab (p := ⟨a1, 0, none⟩) (Kd.R_types a8.out a5.out (by decide)) (fun _ hk => hk.2) (.int .i64 a2)) (fun _ hk => hk.2) (.int .i64 a3)) (fun _ hk => hk.2) (.int .i64 a4)) (fun _ hk => hk.2) (.int .i64 a6)) (fun _ hk => hk.2) (.int .i64 b0)) (fun _ h_ => h_.1))) hb); have c5 := yaa (Kd.R_lower (Kd.R_newB (Kd.R_new' b4 (Kd.R_lt (by (with_reducible repeat (first | apply Kd.R_alloc | apply Kd.R_drewN | apply Kd.R_drew)); exact (Kd.R_mono (yab (p := ⟨a1, 4, none⟩) (yab (p := ⟨a1, 3, none⟩) (yab (p := ⟨a1, 2, none⟩) (yab (p := ⟨a1, 1, none⟩) (yab (p := ⟨a1, 0, none⟩) (Kd.R_mono a9.out (fun k_ hk => (⟨hk, hk.2⟩ : _ ∧ k_ ≠ a1))) (fun _ hk => hk.2) (.int .i64 a2)) (fun _ hk => hk.2) (.int .i64 a3)) (fun _ hk => hk.2) (.int .i64 a4)) (fun _ hk => hk.2) (.int .i64 a6)) (fun _ hk => hk.2) (.int .i64 b0)) (fun _ h_ => h_.1))))) (g := a1) (o := .cells #[.int .i64 a2, .int .i64 a3, .int .i64 a4, .int .i64 a6, .int .i64 b0] 23 (0, 0)) (by (repeat refine oneB ?_); refine blk_put (cs := #[.int .i64 a2, .int .i64 a3, .int .i64 a4, .int .i64 a6, .int .i64 0]) ?_ 4 _ rfl; refine blk_put (cs := #[.int .i64 a2, .int .i64 a3, .int .i64 a4, .int .i64 0, .int .i64 0]) ?_ 3 _ rfl; refine blk_put (cs := #[.int .i64 a2, .int .i64 a3, .int .i64 0, .int .i64 0, .int .i64 0]) ?_ 2 _ rfl; refine blk_put (cs := #[.int .i64 a2, .int .i64 0, .int .i64 0, .int .i64 0, .int .i64 0]) ?_ 1 _ rfl; refine blk_put (cs := #[.int .i64 0, .int .i64 0, .int .i64 0, .int .i64 0, .int .i64 0]) ?_ 0 _ rfl; exact upB a5.out)) (below_size (by repeat (with_reducible first | exact HB.out | apply below_alloc | apply pw_below_drewN | apply below_drew1 | refine below_set ?_ (Aside0.out ‹_›))))); replace a9 := yaa (Kd.R_elder' (by (with_reducible repeat (first | apply Kd.R_alloc | apply Kd.R_drewN | apply Kd.R_drew)); exact (Kd.R_mono (yab (p := ⟨a1, 4, none⟩) (yab (p := ⟨a1, 3, none⟩) (yab (p := ⟨a1, 2, none⟩) (yab (p := ⟨a1, 1, none⟩) (yab (p := ⟨a1, 0, none⟩) (Kd.R_mono a9.out (fun k_ hk => (⟨hk, hk.2⟩ : _ ∧ k_ ≠ a1))) (fun _ hk => hk.2) (.int .i64 a2)) (fun _ hk => hk.2) (.int .i64 a3)) (fun _ hk => hk.2) (.int .i64 a4)) (fun _ hk => hk.2) (.int .i64 a6)) (fun _ hk => hk.2) (.int .i64 b0)) (fun _ h_ => h_.1))) (Kd.R_base b4) hb); replace a5 := yaa (blk_below (g := a1) (o := .cells #[.int .i64 a2, .int .i64 a3, .int .i64 a4, .int .i64 a6, .int .i64 b0] 23 (0, 0)) (by (repeat refine oneB ?_); refine blk_put (cs := #[.int .i64 a2, .int .i64 a3, .int .i64 a4, .int .i64 a6, .int .i64 0]) ?_ 4 _ rfl; refine blk_put (cs := #[.int .i64 a2, .int .i64 a3, .int .i64 a4, .int .i64 0, .int .i64 0]) ?_ 3 _ rfl; refine blk_put (cs := #[.int .i64 a2, .int .i64 a3, .int .i64 0, .int .i64 0, .int .i64 0]) ?_ 2 _ rfl; refine blk_put (cs := #[.int .i64 a2, .int .i64 0, .int .i64 0, .int .i64 0, .int .i64 0]) ?_ 1 _ rfl; refine blk_put (cs := #[.int .i64 0, .int .i64 0, .int .i64 0, .int .i64 0, .int .i64 0]) ?_ 0 _ rfl; exact upB a5.out) hb); replace HB := yaa (below_step (by repeat (with_reducible first | exact HB.out | apply below_alloc | apply pw_below_drewN | apply below_drew1 | refine below_set ?_ (Aside0.out ‹_›))) hb); clear hb b4))
       go_ret2
       exact ⟨_, by first | rfl | (simp [*, errW_none, errW_some] <;> rfl), by (with_reducible repeat (first | apply Kd.R_alloc | apply Kd.R_drewN | apply Kd.R_drew)); exact Kd.R_mono c5.out (fun _ hk => trivial), by repeat (with_reducible first | exact HB.out | apply below_alloc | apply pw_below_drewN | apply below_drew1 | refine below_set ?_ (Aside0.out ‹_›))⟩
     ·
      rw [if_neg c10] at H
      exact absurd H (by simp)
    ·
     rw [if_neg c9] at H
     have e9 : decide (a7 < (b1.length : Int)) = false := decide_eq_false c9; clear c9
     simp only [Option.some.injEq, Prod.mk.injEq] at H
     obtain ⟨rfl, rfl⟩ := H; obtain ⟨g2, g3, f5⟩ := Kd.R_slice a8.out; subst f5
     go_wp2
     go_ret2
     exact ⟨_, by first | rfl | (simp [*, errW_none, errW_some] <;> rfl), by first | exact a9.out | exact upR a9.out, upH HB.out⟩
end
end Go.Proofs.YtfafjpfigphchaaDoor.X
