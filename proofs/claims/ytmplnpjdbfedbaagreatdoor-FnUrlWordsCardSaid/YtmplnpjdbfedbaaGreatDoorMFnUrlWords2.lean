/- Lemmas and contracts for the law FnUrlWords, part 2: of the program's functions, and over data alone. Conditions: the listed package-level variables begin as the program's text lays them (tied by the card). -/
import Derived.Test.YtmplnpjdbfedbaaGreatDoorMFnUrlWords1
import Derived.Test.YtmplnpjdbfedbaaGreatDoorProg
import Derived.Below
import Derived.Deep.Draws
import Derived.Deep.AppendLies
import Derived.Maps.AppendAt
import Derived.OwnWalk
import Derived.Laws.BytesArg
import Derived.Laws.MakeOwn
import Derived.Laws.OwnMore
import Derived.Deep.OwnRows
import Derived.Tactics
import Derived.Lib.ConvBytes
import Derived.Laws.Slices
import Derived.WalkKit
import Derived.KernelRfl
import Derived.RowKit3
import Derived.Deep.LoopGhost
import Derived.Deep.QuietTactic
import Derived.BigQuiet
import Derived.WideLaws
import Derived.Deep.DeepCutAuto
import Derived.Deep.CutBlock
import Derived.Deep.RegionHeld3
import Derived.Laws.Rows
import Derived.Lib.AppendStr
import Derived.ArgAppend
import Derived.Laws.IdiomCopy
import Derived.OrdersHeld
import Derived.Laws.BitsLemmas
import Derived.RowKit
namespace Go.Proofs.YtmplnpjdbfedbaaGreatDoorW.PrintLast
open Go.RowKit Go.Proofs.YtmplnpjdbfedbaaGreatDoorW.PrintWords
variable {P : Program} {ops : Array Oper} {Q : Exit → Act → World → Prop} {S : World → Prop} {ds : List Nat}
theorem pz_ {T : Bool × List (List Nat × List Nat)} {oi : Oper} {v : Value} {fuel : Nat} {l : Array Bool} {a : Act} {w : World} (i d : Nat) (l' : Array Bool) (hT : Aside0 (rtab .any ops = T)) (hc : anyT T l.toList l'.toList i = true) {a' : Act}
    (h : wpAnyLast P .any ops Q S ds fuel l' a' w)
    (hi : ops[i]? = some oi := by rfl) (hN : oi.dst = some d := by rfl) (hw : Region.wanted oi (yielded ops a.tmps) = true := by rfl)
    (hy : ∀ w', (execOp a.eval oi).run P w' = .ok (.value v) w' := by (intro w'; go_simp; with_reducible rfl))
    (ha : a.put (some d) v = a' := by (simp only [Act.put, List.setIfInBounds_toArray, List.set_cons_zero, List.set_cons_succ, i64_w, i32_w]; rfl))
    (hQ : ∀ c a w, Q (.panic c) (a.put oi.dst v) w → Q (.panic c) a w := by exact fun _ _ _ h => h) :
    wpAnyLast P .any ops Q S ds (fuel + 1) l a w :=
  pure_ l' hi hN (any_of hT.out hc) hQ (Or.inl ⟨hw, hy⟩) ha h
theorem tz_ {T : Bool × List (List Nat × List Nat)} {B : List Nat} {oi : Oper} {v : Value} {fuel : Nat} {l : Array Bool} {a : Act} {w : World} (i d : Nat) (l' : Array Bool) (hT : Aside0 (rtab .any ops = T)) (hB : Aside0 (waitsOk T.2 B = true)) (hc : takeW T B ds l.toList l'.toList i = true) (hS : S w) {a' : Act}
    (h : wpAnyLast P .any ops Q S ds fuel l' a' w)
    (hi : ops[i]? = some oi := by rfl) (hN : oi.dst = some d := by rfl) (hw : Region.wanted oi (yielded ops a.tmps) = true := by rfl)
    (hy : ∀ w', S w' → (execOp a.eval oi).run P w' = .ok (.value v) w' := by (intro w' hs; go_simp; with_reducible rfl))
    (ha : a.put (some d) v = a' := by (simp only [Act.put, List.setIfInBounds_toArray, List.set_cons_zero, List.set_cons_succ, i64_w, i32_w]; rfl))
    (hQ : ∀ c a w, Q (.panic c) (a.put oi.dst v) w → Q (.panic c) a w := by exact fun _ _ _ h => h) :
    wpAnyLast P .any ops Q S ds (fuel + 1) l a w :=
  take_ l' hi hN (take_ofW hT.out hB.out hc) hQ (Or.inl ⟨hw, hy⟩) hS ha h
class UpW (w w' : World) : Prop where
  step : ∀ K : World → Prop, (∀ v O, K v → K (v.alloc O)) → (∀ v, K v → K v.drew) → (∀ v n, K v → K (v.drewN n)) → K w → K w'
instance upw_refl (w : World) : UpW w w := ⟨fun _ _ _ _ h => h⟩
instance upw_alloc (w w' : World) (O : Obj) [h : UpW w w'] : UpW w (w'.alloc O) := ⟨fun K a b c k => a _ _ (h.step K a b c k)⟩
instance upw_drew (w w' : World) [h : UpW w w'] : UpW w w'.drew := ⟨fun K a b c k => b _ (h.step K a b c k)⟩
instance upw_drewN (w w' : World) (n : Nat) [h : UpW w w'] : UpW w (w'.drewN n) := ⟨fun K a b c k => c _ _ (h.step K a b c k)⟩
theorem upB {w w' : World} {g : Nat} {o : Obj} (h : w.heap[g]? = some o) [u : UpW w w'] : w'.heap[g]? = some o := u.step (fun v => v.heap[g]? = some o) (fun _ O k => blk_alloc k O) (fun _ k => blk_drew k) (fun _ n k => blk_drewN k n) h
theorem upR {α : Type} {d : Kd α} {e base : Nat} {ok : Nat → Prop} {w w' : World} {v : Value} {xs : List α} (h : d.R e w base ok v xs) [u : UpW w w'] : d.R e w' base ok v xs := u.step (fun x => d.R e x base ok v xs) (fun _ O k => Kd.R_alloc k O) (fun _ k => Kd.R_drew k) (fun _ n k => Kd.R_drewN k n) h
theorem upH {w0 w w' : World} (h : Below w0.heap.size w0 w) [u : UpW w w'] : Below w0.heap.size w0 w' := u.step (fun x => Below w0.heap.size w0 x) (fun _ O k => below_alloc k O) (fun _ k => below_drew1 k) (fun _ n k => pw_below_drewN k n) h
class OneW (w : outParam World) (w' : World) : Prop where
  up : UpW w w'
instance onew_alloc (w : World) (O : Obj) : OneW w (w.alloc O) := ⟨inferInstance⟩
instance onew_drew (w : World) : OneW w w.drew := ⟨inferInstance⟩
instance onew_drewN (w : World) (n : Nat) : OneW w (w.drewN n) := ⟨inferInstance⟩
theorem oneB {w w' : World} {g : Nat} {o : Obj} (h : w.heap[g]? = some o) [u : OneW w w'] : w'.heap[g]? = some o := @upB _ _ _ _ h u.up
section
variable {w : World} {g t : Nat} {a b c d e f i j k : Value}
theorem cc3_ (h : w.heap[g]? = some (.cells #[a, b, c] t (0, 0))) : w.cell? ⟨g, 0, none⟩ = some a ∧ w.cell? ⟨g, 1, none⟩ = some b ∧ w.cell? ⟨g, 2, none⟩ = some c := ⟨(blk_cell h 0).trans rfl, (blk_cell h 1).trans rfl, (blk_cell h 2).trans rfl⟩
theorem cc4_ (h : w.heap[g]? = some (.cells #[a, b, c, d] t (0, 0))) : w.cell? ⟨g, 0, none⟩ = some a ∧ w.cell? ⟨g, 1, none⟩ = some b ∧ w.cell? ⟨g, 2, none⟩ = some c ∧ w.cell? ⟨g, 3, none⟩ = some d := ⟨(blk_cell h 0).trans rfl, (blk_cell h 1).trans rfl, (blk_cell h 2).trans rfl, (blk_cell h 3).trans rfl⟩
theorem cc5_ (h : w.heap[g]? = some (.cells #[a, b, c, d, e] t (0, 0))) : w.cell? ⟨g, 0, none⟩ = some a ∧ w.cell? ⟨g, 1, none⟩ = some b ∧ w.cell? ⟨g, 2, none⟩ = some c ∧ w.cell? ⟨g, 3, none⟩ = some d ∧ w.cell? ⟨g, 4, none⟩ = some e := ⟨(blk_cell h 0).trans rfl, (blk_cell h 1).trans rfl, (blk_cell h 2).trans rfl, (blk_cell h 3).trans rfl, (blk_cell h 4).trans rfl⟩
variable {cs : Array Value}
theorem cf2_ (h : w.heap[g]? = some (.cells cs t (0, 0))) : w.frozen? ⟨g, 0, none⟩ = false ∧ w.frozen? ⟨g, 1, none⟩ = false := ⟨blk_frozen h 0, blk_frozen h 1⟩
theorem cf3_ (h : w.heap[g]? = some (.cells cs t (0, 0))) : w.frozen? ⟨g, 0, none⟩ = false ∧ w.frozen? ⟨g, 1, none⟩ = false ∧ w.frozen? ⟨g, 2, none⟩ = false := ⟨blk_frozen h 0, blk_frozen h 1, blk_frozen h 2⟩
theorem cf4_ (h : w.heap[g]? = some (.cells cs t (0, 0))) : w.frozen? ⟨g, 0, none⟩ = false ∧ w.frozen? ⟨g, 1, none⟩ = false ∧ w.frozen? ⟨g, 2, none⟩ = false ∧ w.frozen? ⟨g, 3, none⟩ = false := ⟨blk_frozen h 0, blk_frozen h 1, blk_frozen h 2, blk_frozen h 3⟩
theorem cf5_ (h : w.heap[g]? = some (.cells cs t (0, 0))) : w.frozen? ⟨g, 0, none⟩ = false ∧ w.frozen? ⟨g, 1, none⟩ = false ∧ w.frozen? ⟨g, 2, none⟩ = false ∧ w.frozen? ⟨g, 3, none⟩ = false ∧ w.frozen? ⟨g, 4, none⟩ = false := ⟨blk_frozen h 0, blk_frozen h 1, blk_frozen h 2, blk_frozen h 3, blk_frozen h 4⟩
end
theorem upc_ {w w' : World} {a : Addr} {v : Value} (hb : Below w.heap.size w w') (h : w.cell? a = some v) : w'.cell? a = some v := (hb.cell (World.block_lt_of_cell? w _ h)).trans h
theorem bindA {α β : Type} {x : Option α} {f : α → Option β} {r : β} (H : x.bind f = some r) : ∃ a, Aside0 (x = some a) ∧ f a = some r := by
  obtain ⟨a, h, k⟩ := Option.bind_eq_some_iff.mp H
  exact ⟨a, ⟨h⟩, k⟩
def bl_ (n m : Nat) : Array Bool := ((List.range n).map fun i => m.testBit i).toArray
theorem bindY {α β : Type} {L : α} {F : α → Option β} {r : Option β} (H : (some L).bind F = r) : ∃ y, y = L ∧ F y = r := ⟨L, rfl, H⟩
section
variable {P : Program} {ops : Array Oper} {rest : List Oper} {o : Oper} {a : Act} {Q : Exit → Act → World → Prop}
theorem bx_ {W : World} (N : Tmp) (hd : o.dst = some N) (cs : Array Value) (t : TypeId)
    (h : ∀ g, g = W.heap.size → ∀ w1, w1.heap[g]? = some (.cells cs t (0, 0)) → Below W.heap.size W w1 → wpList P ops Q rest (a.put o.dst (.pointer (some ⟨g, 0, none⟩))) w1)
    (hg : o.guard = none := by first | rfl | (simp [Region.wanted, yielded, *]; done))
    (hr : (execOp a.eval o).run P W = .ok (.value (.pointer (some ⟨W.heap.size, 0, none⟩))) (W.alloc (.cells cs t (0, 0))) := by first | (go_simp; done) | (go_simp; rfl)) : wpList P ops Q (o :: rest) a W := box_event hg hd hr h
theorem gc_ (f : FuncId) {W : World} {as1 : Array Operand} {ts : Array TypeId} (_ho : o.op = .call { callee := .value (.func f), args := as1, argTypes := ts }) (h : wpList P ops Q (o :: rest) a W) : wpList P ops Q (o :: rest) a W := h
theorem gd_ (N : Tmp) {W : World} (_hN : o.dst = some N) (h : wpList P ops Q (o :: rest) a W) : wpList P ops Q (o :: rest) a W := h
theorem gl_ {w : World} (N : Option Tmp) (hd : o.dst = N) {f : FuncId} {fn : Func} {aa : Array Operand} {ts : Array TypeId} (hf : P.funcs[f]? = some fn) (args : Array Value)
    (h : Calls P f args w fun e w' => ∃ v, e = .returned v ∧ wpList P ops Q rest (a.put N v) w') (hg : o.guard = none := by rfl) (hname : (fn.name == "runtime.NumGoroutine") = false := by kernel_rfl) (hb : fn.body.isSome = true := by rfl)
    (hop : o.op = .call { callee := .value (.func f), args := aa, argTypes := ts } := by rfl) (hargs : aa.map a.eval = args := by ((try simp only [List.map_toArray, List.map_cons, List.map_nil]); first | done | rfl | (simp only [List.length_drop, List.length_take]; rfl))) : wpList P ops Q (o :: rest) a w :=
  goesL_ N hd hg hf hname hb args hop hargs h
end
end Go.Proofs.YtmplnpjdbfedbaaGreatDoorW.PrintLast
namespace Go.Proofs.YtmplnpjdbfedbaaGreatDoor.X
open Go.RowKit Go.Proofs.YtmplnpjdbfedbaaGreatDoorW.PrintWords Go.Proofs.YtmplnpjdbfedbaaGreatDoorW.PrintLast Go.Proofs.YtmplnpjdbfedbaaGreatDoorW.PrintMore
attribute [local go_sem] max2_int min2_int max_two min_two max_three min_three max_four min_four
set_option linter.unusedVariables false
set_option linter.unusedSimpArgs false
section
def errW : Option Int → Value
  | none => .nilIface
  | some c => .iface 0 (.int .i64 c)
theorem errW_none : errW none = .nilIface := rfl
theorem errW_some (c : Int) : errW (some c) = .iface 0 (.int .i64 c) := rfl
theorem info3 : (Tryz.prog.info? 3).map (fun i => (i.zero, i.size, i.bytes)) = some (some (.int .i64 0), 1, 8) := by kernel_rfl
theorem info5 : (Tryz.prog.info? 5).map (fun i => (i.zero, i.size, i.bytes)) = some (some (.int .u8 0), 1, 1) := by kernel_rfl
theorem info9 : (Tryz.prog.info? 9).map (fun i => (i.zero, i.size, i.bytes)) = some (some (.string ⟨#[]⟩), 1, 16) := by kernel_rfl
theorem info65 : (Tryz.prog.info? 65).map (fun i => (i.zero, i.size, i.bytes)) = some (some (.agg #[(.int .i64 0), (.int .i64 0), (.int .i64 0), (.int .i64 0), (.int .i64 0)]), 5, 40) := by kernel_rfl
structure S65 where
  f0 : Int
  f1 : Int
  f2 : Int
  f3 : Int
  f4 : Int
def z65 : S65 := ⟨(0 : Int), (0 : Int), (0 : Int), (0 : Int), (0 : Int)⟩
def k65 : Kd S65 := Kd.iso (Kd.pair (Kd.int .i64) (Kd.pair (Kd.int .i64) (Kd.pair (Kd.int .i64) (Kd.pair (Kd.int .i64) (Kd.int .i64))))) (fun x : S65 => (x.f0, x.f1, x.f2, x.f3, x.f4))
theorem k65_open {w : World} {x : S65} {cs : List Value} (h : k65.K w x cs) : cs = [.int .i64 x.f0, .int .i64 x.f1, .int .i64 x.f2, .int .i64 x.f3, .int .i64 x.f4] := by
  obtain ⟨_, _, rfl, rfl, ⟨_, _, rfl, rfl, ⟨_, _, rfl, rfl, ⟨_, _, rfl, rfl, rfl⟩⟩⟩⟩ := h
  exact rfl
theorem k65_mkM (w : World) (base : Nat) (ok : Nat → Prop) (x : S65)  : k65.M w base ok x [.int .i64 x.f0, .int .i64 x.f1, .int .i64 x.f2, .int .i64 x.f3, .int .i64 x.f4] := ⟨[.int .i64 x.f0], [.int .i64 x.f1, .int .i64 x.f2, .int .i64 x.f3, .int .i64 x.f4], rfl, rfl, ⟨[.int .i64 x.f1], [.int .i64 x.f2, .int .i64 x.f3, .int .i64 x.f4], rfl, rfl, ⟨[.int .i64 x.f2], [.int .i64 x.f3, .int .i64 x.f4], rfl, rfl, ⟨[.int .i64 x.f3], [.int .i64 x.f4], rfl, rfl, rfl⟩⟩⟩⟩
def rd_T65 (xs : List S65) (i : Int) : S65 := xs.getD i.toNat z65
theorem at_T65 {w : World} {A : Option Addr} {n : Nat} {xs : List S65} (h : Kd.C k65 w A n xs) (i : Int) (h0 : 0 ≤ i) (h1 : i < n) : ∃ ad , A = some ad ∧ w.cell? (ad.add (i.toNat * 5)) = some (.int .i64 (rd_T65 xs i).f0) ∧ w.cell? ⟨(ad.add (i.toNat * 5)).block, (ad.add (i.toNat * 5)).off + 1, none⟩ = some (.int .i64 (rd_T65 xs i).f1) ∧ w.cell? ⟨(ad.add (i.toNat * 5)).block, (ad.add (i.toNat * 5)).off + 2, none⟩ = some (.int .i64 (rd_T65 xs i).f2) ∧ w.cell? ⟨(ad.add (i.toNat * 5)).block, (ad.add (i.toNat * 5)).off + 3, none⟩ = some (.int .i64 (rd_T65 xs i).f3) ∧ w.cell? ⟨(ad.add (i.toNat * 5)).block, (ad.add (i.toNat * 5)).off + 4, none⟩ = some (.int .i64 (rd_T65 xs i).f4) := by
  obtain ⟨ad, c, e, _, hK, hc0⟩ := Kd.C_get h z65 i h0 h1
  have hc : ∀ j u, c[j]? = some u → w.cell? (ad.add (i.toNat * 5 + j)) = some u := hc0
  obtain rfl := k65_open hK
  exact ⟨ad, e, hc 0 _ rfl, by rw [← add_field _ _ 1 (by omega)]; exact hc 1 _ rfl, by rw [← add_field _ _ 2 (by omega)]; exact hc 2 _ rfl, by rw [← add_field _ _ 3 (by omega)]; exact hc 3 _ rfl, by rw [← add_field _ _ 4 (by omega)]; exact hc 4 _ rfl⟩
end
section
def impl_within.f (a0 : Int) (a1 : Int) (a2 : Int) : Option (Bool) := if a0 ≥ a1 then (some (decide (a0 ≤ a2))) else (some false)
set_option maxHeartbeats 8000000 in
set_option maxRecDepth 100000 in
theorem impl_within.calls (a0 : Int) (a1 : Int) (a2 : Int) (r : Bool) (w : World) (h : impl_within.f a0 a1 a2 = some r) :
    Calls Tryz.prog 71 #[.int .i64 a0, .int .i64 a1, .int .i64 a2] w fun e w' => e = .returned (.bool r) ∧ Drawn0 w w' := by
  have H : (if a0 ≥ a1 then (some (decide (a0 ≤ a2))) else (some false)) = some r := h; clear h
  by_cases c4 : a0 ≥ a1
  · rw [if_pos c4] at H
    have c4b0 : decide (a1 ≤ a0) = true := decide_eq_true c4; clear c4; obtain rfl := Option.some.inj H
    go_enter Tryz.func71, Tryz.ntmps71
    go_wp2
    go_ret
    exact ⟨by first | rfl | (simp; done) | (simp [*]; done), by repeat (first | exact Drawn0.refl _ | apply Drawn0.step)⟩
  · rw [if_neg c4] at H
    have c4b0 : decide (a1 ≤ a0) = false := decide_eq_false c4; clear c4; obtain rfl := Option.some.inj H
    go_enter Tryz.func71, Tryz.ntmps71
    go_wp2
    go_ret
    exact ⟨by first | rfl | (simp; done) | (simp [*]; done), by repeat (first | exact Drawn0.refl _ | apply Drawn0.step)⟩
end
section
theorem eqA65 (d : Nat) (w : World) (x0 y0 : Int) (x1 y1 : Int) (x2 y2 : Int) (x3 y3 : Int) (x4 y4 : Int) :
    (Op.equalIn (d + 2) 65 (.agg #[.int .i64 x0, .int .i64 x1, .int .i64 x2, .int .i64 x3, .int .i64 x4]) (.agg #[.int .i64 y0, .int .i64 y1, .int .i64 y2, .int .i64 y3, .int .i64 y4])).run Tryz.prog w = .ok (x0 == y0 && (x1 == y1 && (x2 == y2 && (x3 == y3 && (x4 == y4))))) w := by
  refine eqA_of Tryz.underlying65 (by kernel_rfl) ?_
  refine eqf_cons (by rfl) (by go_simp; rfl) (by go_simp; rfl) (by go_simp) ?_
  refine eqf_cons (by rfl) (by go_simp; rfl) (by go_simp; rfl) (by go_simp) ?_
  refine eqf_cons (by rfl) (by go_simp; rfl) (by go_simp; rfl) (by go_simp) ?_
  refine eqf_cons (by rfl) (by go_simp; rfl) (by go_simp; rfl) (by go_simp) ?_
  exact eqf_last (by rfl) (by go_simp; rfl) (by go_simp; rfl) (by go_simp)
end
section
def impl_partOk.f (a0 : Int) : Option (Bool) := if a0 ≥ 0 then (some (decide (a0 ≤ 255))) else (some false)
set_option maxHeartbeats 8000000 in
set_option maxRecDepth 100000 in
theorem impl_partOk.calls (a0 : Int) (r : Bool) (w : World) (h : impl_partOk.f a0 = some r) :
    Calls Tryz.prog 55 #[.int .i64 a0] w fun e w' => e = .returned (.bool r) ∧ Drawn0 w w' := by
  have H : (if a0 ≥ 0 then (some (decide (a0 ≤ 255))) else (some false)) = some r := h; clear h
  by_cases c2 : a0 ≥ 0
  · rw [if_pos c2] at H
    have c2b0 : decide (0 ≤ a0) = true := decide_eq_true c2; clear c2; obtain rfl := Option.some.inj H
    go_enter Tryz.func55, Tryz.ntmps55
    go_wp2
    go_ret
    exact ⟨by first | rfl | (simp; done) | (simp [*]; done), by repeat (first | exact Drawn0.refl _ | apply Drawn0.step)⟩
  · rw [if_neg c2] at H
    have c2b0 : decide (0 ≤ a0) = false := decide_eq_false c2; clear c2; obtain rfl := Option.some.inj H
    go_enter Tryz.func55, Tryz.ntmps55
    go_wp2
    go_ret
    exact ⟨by first | rfl | (simp; done) | (simp [*]; done), by repeat (first | exact Drawn0.refl _ | apply Drawn0.step)⟩
end
section
def impl_sizeOk.f (a0 : Int) : Option (Bool) := if a0 ≥ 1 then (some (decide (a0 ≤ 6))) else (some false)
set_option maxHeartbeats 8000000 in
set_option maxRecDepth 100000 in
theorem impl_sizeOk.calls (a0 : Int) (r : Bool) (w : World) (h : impl_sizeOk.f a0 = some r) :
    Calls Tryz.prog 91 #[.int .i64 a0] w fun e w' => e = .returned (.bool r) ∧ Drawn0 w w' := by
  have H : (if a0 ≥ 1 then (some (decide (a0 ≤ 6))) else (some false)) = some r := h; clear h
  by_cases c2 : a0 ≥ 1
  · rw [if_pos c2] at H
    have c2b0 : decide (1 ≤ a0) = true := decide_eq_true c2; clear c2; obtain rfl := Option.some.inj H
    go_enter Tryz.func91, Tryz.ntmps91
    go_wp2
    go_ret
    exact ⟨by first | rfl | (simp; done) | (simp [*]; done), by repeat (first | exact Drawn0.refl _ | apply Drawn0.step)⟩
  · rw [if_neg c2] at H
    have c2b0 : decide (1 ≤ a0) = false := decide_eq_false c2; clear c2; obtain rfl := Option.some.inj H
    go_enter Tryz.func91, Tryz.ntmps91
    go_wp2
    go_ret
    exact ⟨by first | rfl | (simp; done) | (simp [*]; done), by repeat (first | exact Drawn0.refl _ | apply Drawn0.step)⟩
end
section
attribute [local go_sem high] eqA65
open Go.Proofs.YtmplnpjdbfedbaaGreatDoorW.PrintWords renaming pw_below_drewN → yaa, below_alloc → yab, below_drew1 → yac, below_set → yae
open Go.Proofs.YtmplnpjdbfedbaaGreatDoorW.PrintWords.Aside0 renaming mk → yad
def impl_OpOk.j0 : Nat → Int → Bool → Int → Int → Int → Int → Int → Option (Bool)
 | 0, _, _, _, _, _, _, _ => none
 | k + 1, x4, x25, x102000, x102001, x102002, x102003, x102004 => if x25 = true then (some (x102001 == 0 && (x102002 == 0 && (x102003 == 0 && (x102004 == 0))))) else (if x4 = 7 then ((impl_sizeOk.f x102001).bind fun t106 => (if t106 = true then ((impl_sizeOk.f x102002).bind fun t107 => (if t107 = true then (if x102003 = 0 then (some (x102004 == 0)) else (some false)) else (some false))) else (some false))) else (if x4 = 8 then ((impl_partOk.f x102001).bind fun t108 => (if t108 = true then ((impl_partOk.f x102002).bind fun t109 => (if t109 = true then ((impl_partOk.f x102003).bind fun t110 => (if t110 = true then (some (x102004 == 0)) else (some false))) else (some false))) else (some false))) else (some false)))
def impl_OpOk.f (k : Nat) (a0_0 : Int) (a0_1 : Int) (a0_2 : Int) (a0_3 : Int) (a0_4 : Int) : Option (Bool) := if a0_0 = 1 then ((impl_within.f a0_1 0 5).bind fun t102 => (if t102 = true then ((impl_within.f a0_2 0 5).bind fun t103 => (if t103 = true then ((impl_sizeOk.f a0_3).bind fun t104 => (if t104 = true then ((impl_sizeOk.f a0_4).bind fun t105 => (some t105)) else (some false))) else (some false))) else (some false))) else (if a0_0 = 2 then (impl_OpOk.j0 k a0_0 (a0_0 == 2) a0_0 a0_1 a0_2 a0_3 a0_4) else (if a0_0 = 3 then (impl_OpOk.j0 k a0_0 (a0_0 == 3) a0_0 a0_1 a0_2 a0_3 a0_4) else (if a0_0 = 4 then (impl_OpOk.j0 k a0_0 (a0_0 == 4) a0_0 a0_1 a0_2 a0_3 a0_4) else (if a0_0 = 5 then (impl_OpOk.j0 k a0_0 (a0_0 == 5) a0_0 a0_1 a0_2 a0_3 a0_4) else (impl_OpOk.j0 k a0_0 (a0_0 == 6) a0_0 a0_1 a0_2 a0_3 a0_4)))))
set_option maxHeartbeats 8000000 in
set_option maxRecDepth 100000 in
theorem impl_OpOk.calls (k : Nat) (a0_0 : Int) (a0_1 : Int) (a0_2 : Int) (a0_3 : Int) (a0_4 : Int) (r : Bool) (w : World) (h : impl_OpOk.f k a0_0 a0_1 a0_2 a0_3 a0_4 = some r) :
  Calls Tryz.prog 67 #[.agg #[.int .i64 a0_0, .int .i64 a0_1, .int .i64 a0_2, .int .i64 a0_3, .int .i64 a0_4]] w fun e w' => e = .returned (.bool r) ∧ Below w.heap.size w w' := by
 have hu65 := Tryz.underlying65; have HB := yad (Below.refl w.heap.size w); have H : (if a0_0 = 1 then ((impl_within.f a0_1 0 5).bind fun h6 => (if h6 = true then ((impl_within.f a0_2 0 5).bind fun h7 => (if h7 = true then ((impl_sizeOk.f a0_3).bind fun h8 => (if h8 = true then ((impl_sizeOk.f a0_4).bind fun h9 => (some h9)) else (some false))) else (some false))) else (some false))) else (if a0_0 = 2 then (impl_OpOk.j0 k a0_0 (a0_0 == 2) a0_0 a0_1 a0_2 a0_3 a0_4) else (if a0_0 = 3 then (impl_OpOk.j0 k a0_0 (a0_0 == 3) a0_0 a0_1 a0_2 a0_3 a0_4) else (if a0_0 = 4 then (impl_OpOk.j0 k a0_0 (a0_0 == 4) a0_0 a0_1 a0_2 a0_3 a0_4) else (if a0_0 = 5 then (impl_OpOk.j0 k a0_0 (a0_0 == 5) a0_0 a0_1 a0_2 a0_3 a0_4) else (impl_OpOk.j0 k a0_0 (a0_0 == 6) a0_0 a0_1 a0_2 a0_3 a0_4)))))) = some r := h; clear h
 by_cases c2 : a0_0 = 1
 ·
  rw [if_pos c2] at H
  have i0 := beq_iff_eq.mpr c2; have i1 := bne_eq_false_iff_eq.mpr c2; clear c2; obtain ⟨h6, A3, H⟩ := bindA H; (try dsimp only at H)
  by_cases c4 : h6 = true
  rotate_left
  ·
   replace c4 := Bool.eq_false_iff.mpr c4
   subst c4
   rw [if_neg (show ¬ (false = true) by decide)] at H
   obtain rfl := Option.some.inj H
   go_enter Tryz.func67, Tryz.ntmps67
   go_wp2_with (first | ((with_reducible refine gd_ 1 rfl ?_); refine bx_ 1 rfl #[.int .i64 a0_0, .int .i64 a0_1, .int .i64 a0_2, .int .i64 a0_3, .int .i64 a0_4] 65 ?_; intro a6 hg w16 hbox hb; have a5 := yad (hbox); have a7 := yad ((by rw [hg]; exact (below_size (upH HB.out)) : w.heap.size ≤ a6)); replace HB := yad (below_step (upH HB.out) hb); have b2 := a7; clear hb hbox hg; obtain ⟨e9, f0, f1, f2, f3⟩ := cc5_ a5.out; obtain ⟨f4, f5, f6, f7⟩ := cf4_ a5.out; have f8 := blk_frozen a5.out 4) | ((with_reducible refine gc_ 71 rfl ?_); refine gl_ (some 9) rfl Tryz.func71 #[.int .i64 a0_1, .int .i64 0, .int .i64 5] ?_; (with_reducible refine (impl_within.calls a0_1 0 5 false _ A3.out).mono ?_); rintro e w' ⟨rfl, ⟨nd, rfl⟩⟩; refine ⟨_, rfl, ?_⟩))
   go_ret
   exact ⟨by first | rfl | (simp [*, errW_none, errW_some] <;> rfl), by repeat (with_reducible first | exact HB.out | apply yab | apply yaa | apply yac | refine yae ?_ (Aside0.out ‹_›))⟩
  subst c4
  rw [if_pos rfl] at H
  obtain ⟨h7, A5, H⟩ := bindA H; (try dsimp only at H)
  by_cases c6 : h7 = true
  ·
   subst c6
   rw [if_pos rfl] at H
   obtain ⟨h8, A7, H⟩ := bindA H; (try dsimp only at H)
   by_cases c8 : h8 = true
   ·
    subst c8
    rw [if_pos rfl] at H
    obtain ⟨h9, A9, H⟩ := bindA H; (try dsimp only at H); obtain rfl := Option.some.inj H
    go_enter Tryz.func67, Tryz.ntmps67
    go_wp2_with (first | ((with_reducible refine gd_ 1 rfl ?_); refine bx_ 1 rfl #[.int .i64 a0_0, .int .i64 a0_1, .int .i64 a0_2, .int .i64 a0_3, .int .i64 a0_4] 65 ?_; intro a6 hg w10 hbox hb; have a5 := yad (hbox); have a7 := yad ((by rw [hg]; exact (below_size (upH HB.out)) : w.heap.size ≤ a6)); replace HB := yad (below_step (upH HB.out) hb); have b2 := a7; clear hb hbox hg; obtain ⟨b3, b4, b5, b6, b7⟩ := cc5_ a5.out; obtain ⟨b8, b9, c0, c1⟩ := cf4_ a5.out; have c5 := blk_frozen a5.out 4) | ((with_reducible refine gc_ 71 rfl ?_); refine gl_ (some 9) rfl Tryz.func71 #[.int .i64 a0_1, .int .i64 0, .int .i64 5] ?_; (with_reducible refine (impl_within.calls a0_1 0 5 true _ A3.out).mono ?_); rintro e w' ⟨rfl, ⟨nd, rfl⟩⟩; refine ⟨_, rfl, ?_⟩) | (go_at_call 71; (with_reducible refine (impl_within.calls a0_2 0 5 true _ A5.out).mono ?_); rintro e w' ⟨rfl, ⟨nd, rfl⟩⟩) | (go_at_call 91; (with_reducible refine (impl_sizeOk.calls a0_3 true _ A7.out).mono ?_); rintro e w' ⟨rfl, ⟨nd, rfl⟩⟩) | (go_at_call 91; (with_reducible refine (impl_sizeOk.calls a0_4 h9 _ A9.out).mono ?_); rintro e w' ⟨rfl, ⟨nd, rfl⟩⟩))
    go_ret
    exact ⟨by first | rfl | (simp [*, errW_none, errW_some] <;> rfl), by repeat (with_reducible first | exact HB.out | apply yab | apply yaa | apply yac | refine yae ?_ (Aside0.out ‹_›))⟩
   replace c8 := Bool.eq_false_iff.mpr c8
   subst c8
   rw [if_neg (show ¬ (false = true) by decide)] at H
   obtain rfl := Option.some.inj H
   go_enter Tryz.func67, Tryz.ntmps67
   go_wp2_with (first | ((with_reducible refine gd_ 1 rfl ?_); refine bx_ 1 rfl #[.int .i64 a0_0, .int .i64 a0_1, .int .i64 a0_2, .int .i64 a0_3, .int .i64 a0_4] 65 ?_; intro a6 hg w12 hbox hb; have a5 := yad (hbox); have a7 := yad ((by rw [hg]; exact (below_size (upH HB.out)) : w.heap.size ≤ a6)); replace HB := yad (below_step (upH HB.out) hb); have b2 := a7; clear hb hbox hg; obtain ⟨c9, d0, d1, d2, d3⟩ := cc5_ a5.out; obtain ⟨d4, d5, d6, d7⟩ := cf4_ a5.out; have d8 := blk_frozen a5.out 4) | ((with_reducible refine gc_ 71 rfl ?_); refine gl_ (some 9) rfl Tryz.func71 #[.int .i64 a0_1, .int .i64 0, .int .i64 5] ?_; (with_reducible refine (impl_within.calls a0_1 0 5 true _ A3.out).mono ?_); rintro e w' ⟨rfl, ⟨nd, rfl⟩⟩; refine ⟨_, rfl, ?_⟩) | (go_at_call 71; (with_reducible refine (impl_within.calls a0_2 0 5 true _ A5.out).mono ?_); rintro e w' ⟨rfl, ⟨nd, rfl⟩⟩) | (go_at_call 91; (with_reducible refine (impl_sizeOk.calls a0_3 false _ A7.out).mono ?_); rintro e w' ⟨rfl, ⟨nd, rfl⟩⟩))
   go_ret
   exact ⟨by first | rfl | (simp [*, errW_none, errW_some] <;> rfl), by repeat (with_reducible first | exact HB.out | apply yab | apply yaa | apply yac | refine yae ?_ (Aside0.out ‹_›))⟩
  replace c6 := Bool.eq_false_iff.mpr c6
  subst c6
  rw [if_neg (show ¬ (false = true) by decide)] at H
  obtain rfl := Option.some.inj H
  go_enter Tryz.func67, Tryz.ntmps67
  go_wp2_with (first | ((with_reducible refine gd_ 1 rfl ?_); refine bx_ 1 rfl #[.int .i64 a0_0, .int .i64 a0_1, .int .i64 a0_2, .int .i64 a0_3, .int .i64 a0_4] 65 ?_; intro a6 hg w14 hbox hb; have a5 := yad (hbox); have a7 := yad ((by rw [hg]; exact (below_size (upH HB.out)) : w.heap.size ≤ a6)); replace HB := yad (below_step (upH HB.out) hb); have b2 := a7; clear hb hbox hg; obtain ⟨d9, e0, e1, e2, e3⟩ := cc5_ a5.out; obtain ⟨e4, e5, e6, e7⟩ := cf4_ a5.out; have e8 := blk_frozen a5.out 4) | ((with_reducible refine gc_ 71 rfl ?_); refine gl_ (some 9) rfl Tryz.func71 #[.int .i64 a0_1, .int .i64 0, .int .i64 5] ?_; (with_reducible refine (impl_within.calls a0_1 0 5 true _ A3.out).mono ?_); rintro e w' ⟨rfl, ⟨nd, rfl⟩⟩; refine ⟨_, rfl, ?_⟩) | (go_at_call 71; (with_reducible refine (impl_within.calls a0_2 0 5 false _ A5.out).mono ?_); rintro e w' ⟨rfl, ⟨nd, rfl⟩⟩))
  go_ret
  exact ⟨by first | rfl | (simp [*, errW_none, errW_some] <;> rfl), by repeat (with_reducible first | exact HB.out | apply yab | apply yaa | apply yac | refine yae ?_ (Aside0.out ‹_›))⟩
 rw [if_neg c2] at H
 have i0 := beq_eq_false_iff_ne.mpr c2; have i1 := bne_iff_ne.mpr c2; have HC18 := yad H; clear H
 go_enter Tryz.func67, Tryz.ntmps67
 go_upto_if 25 with (first | ((with_reducible refine gd_ 1 rfl ?_); refine bx_ 1 rfl #[.int .i64 a0_0, .int .i64 a0_1, .int .i64 a0_2, .int .i64 a0_3, .int .i64 a0_4] 65 ?_; intro a6 hg w19 hbox hb; have a5 := yad (hbox); have a7 := yad ((by rw [hg]; exact (below_size (upH HB.out)) : w.heap.size ≤ a6)); replace HB := yad (below_step (upH HB.out) hb); have b2 := a7; clear hb hbox hg; obtain ⟨f9, g0, g1, g2, g3⟩ := cc5_ a5.out; obtain ⟨g4, g5, g6, g7⟩ := cf4_ a5.out; have g8 := blk_frozen a5.out 4))
 (try simp only [Act.put, List.setIfInBounds_toArray, List.set_cons_zero, List.set_cons_succ])
 go_cut [25] (fun v25 wc => ∃ (kq : Nat) (b0 : Bool), v25 = .bool b0 ∧ Aside0 (impl_OpOk.j0 kq a0_0 b0 a0_0 a0_1 a0_2 a0_3 a0_4 = some r) ∧ Aside0 (kq ≤ k) ∧ Aside0 (wc.heap[a6]? = some (.cells #[.int .i64 a0_0, .int .i64 a0_1, .int .i64 a0_2, .int .i64 a0_3, .int .i64 a0_4] 65 (0, 0))) ∧ Aside0 (Below w.heap.size w wc))
 case first =>
  have H := HC18.out; clear HC18
  by_cases c21 : a0_0 = 2
  ·
   rw [if_pos c21] at H
   have a9 := beq_iff_eq.mpr c21; have g9 := bne_eq_false_iff_eq.mpr c21; clear c21
   (first | rw [a9] | (simp only [i64_w, i32_w]; rw [a9]) | skip)
   have H' := yad H; clear H
   go_wp2
   go_meet
   case rel => exact ⟨_, ((a0_0 == 2)), (by first | rfl | (simp; done) | (simp [*]; done)), H', ⟨by first | omega | exact Nat.le_refl _⟩, ⟨by exact upB a5.out⟩, ⟨by repeat (with_reducible first | exact HB.out | apply yab | apply yaa | apply yac | refine yae ?_ (Aside0.out ‹_›))⟩⟩
  rw [if_neg c21] at H
  have a9 := beq_eq_false_iff_ne.mpr c21; have g9 := bne_iff_ne.mpr c21
  (first | rw [a9] | (simp only [i64_w, i32_w]; rw [a9]) | skip)
  by_cases c22 : a0_0 = 3
  ·
   rw [if_pos c22] at H
   have h0 := beq_iff_eq.mpr c22; have h1 := bne_eq_false_iff_eq.mpr c22; clear c22; have H' := yad H; clear H
   go_wp2
   go_meet
   case rel => exact ⟨_, ((a0_0 == 3)), (by first | rfl | (simp; done) | (simp [*]; done)), H', ⟨by first | omega | exact Nat.le_refl _⟩, ⟨by exact upB a5.out⟩, ⟨by repeat (with_reducible first | exact HB.out | apply yab | apply yaa | apply yac | refine yae ?_ (Aside0.out ‹_›))⟩⟩
  rw [if_neg c22] at H
  have h0 := beq_eq_false_iff_ne.mpr c22; have h1 := bne_iff_ne.mpr c22
  by_cases c23 : a0_0 = 4
  ·
   rw [if_pos c23] at H
   have h2 := beq_iff_eq.mpr c23; have h3 := bne_eq_false_iff_eq.mpr c23; clear c23; have H' := yad H; clear H
   go_wp2
   go_meet
   case rel => exact ⟨_, ((a0_0 == 4)), (by first | rfl | (simp; done) | (simp [*]; done)), H', ⟨by first | omega | exact Nat.le_refl _⟩, ⟨by exact upB a5.out⟩, ⟨by repeat (with_reducible first | exact HB.out | apply yab | apply yaa | apply yac | refine yae ?_ (Aside0.out ‹_›))⟩⟩
  rw [if_neg c23] at H
  have h2 := beq_eq_false_iff_ne.mpr c23; have h3 := bne_iff_ne.mpr c23
  by_cases c24 : a0_0 = 5
  ·
   rw [if_pos c24] at H
   have h4 := beq_iff_eq.mpr c24; have h5 := bne_eq_false_iff_eq.mpr c24; clear c24; have H' := yad H; clear H
   go_wp2
   go_meet
   case rel => exact ⟨_, ((a0_0 == 5)), (by first | rfl | (simp; done) | (simp [*]; done)), H', ⟨by first | omega | exact Nat.le_refl _⟩, ⟨by exact upB a5.out⟩, ⟨by repeat (with_reducible first | exact HB.out | apply yab | apply yaa | apply yac | refine yae ?_ (Aside0.out ‹_›))⟩⟩
  rw [if_neg c24] at H
  have h4 := beq_eq_false_iff_ne.mpr c24; have h5 := bne_iff_ne.mpr c24; have H' := yad H; clear H
  go_wp2
  go_meet
  case rel => exact ⟨_, ((a0_0 == 6)), (by first | rfl | (simp; done) | (simp [*]; done)), H', ⟨by first | omega | exact Nat.le_refl _⟩, ⟨by exact upB a5.out⟩, ⟨by repeat (with_reducible first | exact HB.out | apply yab | apply yaa | apply yac | refine yae ?_ (Aside0.out ‹_›))⟩⟩
 case rest =>
  clear HC18; (try clear c2); (try clear i0); (try clear i1); (try clear p2); (try clear c4); (try clear c6); (try clear c7); (try clear c8); (try clear c21); (try clear a9); (try clear g9); (try clear c22); (try clear h0); (try clear h1); (try clear c23); (try clear h2); (try clear h3); (try clear c24); (try clear h4); (try clear h5); (try clear b3); (try clear b4); (try clear b5); (try clear b6); (try clear b7); (try clear c9); (try clear d0); (try clear d1); (try clear d2); (try clear d3); (try clear d9); (try clear e0); (try clear e1); (try clear e2); (try clear e3); (try clear e9); (try clear f0); (try clear f1); (try clear f2); (try clear f3); (try clear f9); (try clear g0); (try clear g1); (try clear g2); (try clear g3); (try clear b8); (try clear b9); (try clear c0); (try clear c1); (try clear c5); (try clear d4); (try clear d5); (try clear d6); (try clear d7); (try clear d8); (try clear e4); (try clear e5); (try clear e6); (try clear e7); (try clear e8); (try clear f4); (try clear f5); (try clear f6); (try clear f7); (try clear f8); (try clear g4); (try clear g5); (try clear g6); (try clear g7); (try clear g8); obtain ⟨kq, b0, rfl, HA, HJ17, a5, HB⟩ := hcut
  cases kq with
  | zero => exact absurd HA.out (by simp [impl_OpOk.j0])
  | succ kj17 =>
   have H := HA.out; clear HA
   simp only [impl_OpOk.j0] at H
   by_cases c25 : b0 = true
   ·
    subst c25
    rw [if_pos rfl] at H
    obtain rfl := Option.some.inj H; obtain ⟨i8, i9, j1, j2, j3⟩ := cc5_ a5.out; obtain ⟨j4, j5, j6, j7, j8⟩ := cf5_ a5.out
    go_wp2
    go_ret
    exact ⟨by first | rfl | (simp [*, errW_none, errW_some] <;> rfl), by repeat (with_reducible first | exact HB.out | apply yab | apply yaa | apply yac | refine yae ?_ (Aside0.out ‹_›))⟩
   replace c25 := Bool.eq_false_iff.mpr c25
   subst c25
   rw [if_neg (show ¬ (false = true) by decide)] at H
   by_cases c27 : a0_0 = 7
   ·
    rw [if_pos c27] at H
    have i2 := beq_iff_eq.mpr c27; have i3 := bne_eq_false_iff_eq.mpr c27; clear c27; obtain ⟨s0, A28, H⟩ := bindA H; (try dsimp only at H)
    by_cases c29 : s0 = true
    rotate_left
    ·
     replace c29 := Bool.eq_false_iff.mpr c29
     subst c29
     rw [if_neg (show ¬ (false = true) by decide)] at H
     obtain rfl := Option.some.inj H; obtain ⟨m9, n0, n1, n2, n3⟩ := cc5_ a5.out; obtain ⟨n4, n5, n6, n7, n8⟩ := cf5_ a5.out
     go_wp2_with (first | ((with_reducible refine gc_ 91 rfl ?_); refine gl_ (some 40) rfl Tryz.func91 #[.int .i64 a0_1] ?_; (with_reducible refine (impl_sizeOk.calls a0_1 false _ A28.out).mono ?_); rintro e w' ⟨rfl, ⟨nd, rfl⟩⟩; refine ⟨_, rfl, ?_⟩))
     go_ret
     exact ⟨by first | rfl | (simp [*, errW_none, errW_some] <;> rfl), by repeat (with_reducible first | exact HB.out | apply yab | apply yaa | apply yac | refine yae ?_ (Aside0.out ‹_›))⟩
    subst c29
    rw [if_pos rfl] at H
    obtain ⟨s1, A30, H⟩ := bindA H; (try dsimp only at H)
    by_cases c31 : s1 = true
    ·
     subst c31
     rw [if_pos rfl] at H
     by_cases c32 : a0_3 = 0
     ·
      rw [if_pos c32] at H
      have i4 := beq_iff_eq.mpr c32; have i5 := bne_eq_false_iff_eq.mpr c32; clear c32; obtain rfl := Option.some.inj H; obtain ⟨j9, k0, k1, k2, k3⟩ := cc5_ a5.out; obtain ⟨k4, k5, k6, k7, k8⟩ := cf5_ a5.out
      go_wp2_with (first | ((with_reducible refine gc_ 91 rfl ?_); refine gl_ (some 40) rfl Tryz.func91 #[.int .i64 a0_1] ?_; (with_reducible refine (impl_sizeOk.calls a0_1 true _ A28.out).mono ?_); rintro e w' ⟨rfl, ⟨nd, rfl⟩⟩; refine ⟨_, rfl, ?_⟩) | (go_at_call 91; (with_reducible refine (impl_sizeOk.calls a0_2 true _ A30.out).mono ?_); rintro e w' ⟨rfl, ⟨nd, rfl⟩⟩))
      go_ret
      exact ⟨by first | rfl | (simp [*, errW_none, errW_some] <;> rfl), by repeat (with_reducible first | exact HB.out | apply yab | apply yaa | apply yac | refine yae ?_ (Aside0.out ‹_›))⟩
     rw [if_neg c32] at H
     have i4 := beq_eq_false_iff_ne.mpr c32; have i5 := bne_iff_ne.mpr c32; obtain rfl := Option.some.inj H; obtain ⟨k9, l0, l1, l2, l3⟩ := cc5_ a5.out; obtain ⟨l4, l5, l6, l7, l8⟩ := cf5_ a5.out
     go_wp2_with (first | ((with_reducible refine gc_ 91 rfl ?_); refine gl_ (some 40) rfl Tryz.func91 #[.int .i64 a0_1] ?_; (with_reducible refine (impl_sizeOk.calls a0_1 true _ A28.out).mono ?_); rintro e w' ⟨rfl, ⟨nd, rfl⟩⟩; refine ⟨_, rfl, ?_⟩) | (go_at_call 91; (with_reducible refine (impl_sizeOk.calls a0_2 true _ A30.out).mono ?_); rintro e w' ⟨rfl, ⟨nd, rfl⟩⟩))
     go_ret
     exact ⟨by first | rfl | (simp [*, errW_none, errW_some] <;> rfl), by repeat (with_reducible first | exact HB.out | apply yab | apply yaa | apply yac | refine yae ?_ (Aside0.out ‹_›))⟩
    replace c31 := Bool.eq_false_iff.mpr c31
    subst c31
    rw [if_neg (show ¬ (false = true) by decide)] at H
    obtain rfl := Option.some.inj H; obtain ⟨l9, m0, m1, m2, m3⟩ := cc5_ a5.out; obtain ⟨m4, m5, m6, m7, m8⟩ := cf5_ a5.out
    go_wp2_with (first | ((with_reducible refine gc_ 91 rfl ?_); refine gl_ (some 40) rfl Tryz.func91 #[.int .i64 a0_1] ?_; (with_reducible refine (impl_sizeOk.calls a0_1 true _ A28.out).mono ?_); rintro e w' ⟨rfl, ⟨nd, rfl⟩⟩; refine ⟨_, rfl, ?_⟩) | (go_at_call 91; (with_reducible refine (impl_sizeOk.calls a0_2 false _ A30.out).mono ?_); rintro e w' ⟨rfl, ⟨nd, rfl⟩⟩))
    go_ret
    exact ⟨by first | rfl | (simp [*, errW_none, errW_some] <;> rfl), by repeat (with_reducible first | exact HB.out | apply yab | apply yaa | apply yac | refine yae ?_ (Aside0.out ‹_›))⟩
   rw [if_neg c27] at H
   have i2 := beq_eq_false_iff_ne.mpr c27; have i3 := bne_iff_ne.mpr c27
   by_cases c37 : a0_0 = 8
   rotate_left
   ·
    rw [if_neg c37] at H
    have i6 := beq_eq_false_iff_ne.mpr c37; have i7 := bne_iff_ne.mpr c37; obtain rfl := Option.some.inj H
    go_wp2
    go_ret
    exact ⟨by first | rfl | (simp [*, errW_none, errW_some] <;> rfl), by repeat (with_reducible first | exact HB.out | apply yab | apply yaa | apply yac | refine yae ?_ (Aside0.out ‹_›))⟩
   rw [if_pos c37] at H
   have i6 := beq_iff_eq.mpr c37; have i7 := bne_eq_false_iff_eq.mpr c37; clear c37; obtain ⟨s2, A38, H⟩ := bindA H; (try dsimp only at H)
   by_cases c39 : s2 = true
   rotate_left
   ·
    replace c39 := Bool.eq_false_iff.mpr c39
    subst c39
    rw [if_neg (show ¬ (false = true) by decide)] at H
    obtain rfl := Option.some.inj H; obtain ⟨r0, r1, r2, r3, r4⟩ := cc5_ a5.out; obtain ⟨r5, r6, r7, r8, r9⟩ := cf5_ a5.out
    go_wp2_with (first | ((with_reducible refine gc_ 55 rfl ?_); refine gl_ (some 60) rfl Tryz.func55 #[.int .i64 a0_1] ?_; (with_reducible refine (impl_partOk.calls a0_1 false _ A38.out).mono ?_); rintro e w' ⟨rfl, ⟨nd, rfl⟩⟩; refine ⟨_, rfl, ?_⟩))
    go_ret
    exact ⟨by first | rfl | (simp [*, errW_none, errW_some] <;> rfl), by repeat (with_reducible first | exact HB.out | apply yab | apply yaa | apply yac | refine yae ?_ (Aside0.out ‹_›))⟩
   subst c39
   rw [if_pos rfl] at H
   obtain ⟨s3, A40, H⟩ := bindA H; (try dsimp only at H)
   by_cases c41 : s3 = true
   ·
    subst c41
    rw [if_pos rfl] at H
    obtain ⟨s4, A42, H⟩ := bindA H; (try dsimp only at H)
    by_cases c43 : s4 = true
    ·
     subst c43
     rw [if_pos rfl] at H
     obtain rfl := Option.some.inj H; obtain ⟨n9, o0, o1, o2, o3⟩ := cc5_ a5.out; obtain ⟨o4, o5, o6, o7, o8⟩ := cf5_ a5.out
     go_wp2_with (first | ((with_reducible refine gc_ 55 rfl ?_); refine gl_ (some 60) rfl Tryz.func55 #[.int .i64 a0_1] ?_; (with_reducible refine (impl_partOk.calls a0_1 true _ A38.out).mono ?_); rintro e w' ⟨rfl, ⟨nd, rfl⟩⟩; refine ⟨_, rfl, ?_⟩) | (go_at_call 55; (with_reducible refine (impl_partOk.calls a0_2 true _ A40.out).mono ?_); rintro e w' ⟨rfl, ⟨nd, rfl⟩⟩) | (go_at_call 55; (with_reducible refine (impl_partOk.calls a0_3 true _ A42.out).mono ?_); rintro e w' ⟨rfl, ⟨nd, rfl⟩⟩))
     go_ret
     exact ⟨by first | rfl | (simp [*, errW_none, errW_some] <;> rfl), by repeat (with_reducible first | exact HB.out | apply yab | apply yaa | apply yac | refine yae ?_ (Aside0.out ‹_›))⟩
    replace c43 := Bool.eq_false_iff.mpr c43
    subst c43
    rw [if_neg (show ¬ (false = true) by decide)] at H
    obtain rfl := Option.some.inj H; obtain ⟨o9, p0, p1, p3, p4⟩ := cc5_ a5.out; obtain ⟨p5, p6, p7, p8, p9⟩ := cf5_ a5.out
    go_wp2_with (first | ((with_reducible refine gc_ 55 rfl ?_); refine gl_ (some 60) rfl Tryz.func55 #[.int .i64 a0_1] ?_; (with_reducible refine (impl_partOk.calls a0_1 true _ A38.out).mono ?_); rintro e w' ⟨rfl, ⟨nd, rfl⟩⟩; refine ⟨_, rfl, ?_⟩) | (go_at_call 55; (with_reducible refine (impl_partOk.calls a0_2 true _ A40.out).mono ?_); rintro e w' ⟨rfl, ⟨nd, rfl⟩⟩) | (go_at_call 55; (with_reducible refine (impl_partOk.calls a0_3 false _ A42.out).mono ?_); rintro e w' ⟨rfl, ⟨nd, rfl⟩⟩))
    go_ret
    exact ⟨by first | rfl | (simp [*, errW_none, errW_some] <;> rfl), by repeat (with_reducible first | exact HB.out | apply yab | apply yaa | apply yac | refine yae ?_ (Aside0.out ‹_›))⟩
   replace c41 := Bool.eq_false_iff.mpr c41
   subst c41
   rw [if_neg (show ¬ (false = true) by decide)] at H
   obtain rfl := Option.some.inj H; obtain ⟨q0, q1, q2, q3, q4⟩ := cc5_ a5.out; obtain ⟨q5, q6, q7, q8, q9⟩ := cf5_ a5.out
   go_wp2_with (first | ((with_reducible refine gc_ 55 rfl ?_); refine gl_ (some 60) rfl Tryz.func55 #[.int .i64 a0_1] ?_; (with_reducible refine (impl_partOk.calls a0_1 true _ A38.out).mono ?_); rintro e w' ⟨rfl, ⟨nd, rfl⟩⟩; refine ⟨_, rfl, ?_⟩) | (go_at_call 55; (with_reducible refine (impl_partOk.calls a0_2 false _ A40.out).mono ?_); rintro e w' ⟨rfl, ⟨nd, rfl⟩⟩))
   go_ret
   exact ⟨by first | rfl | (simp [*, errW_none, errW_some] <;> rfl), by repeat (with_reducible first | exact HB.out | apply yab | apply yaa | apply yac | refine yae ?_ (Aside0.out ‹_›))⟩
end
section
open Go.Proofs.YtmplnpjdbfedbaaGreatDoor.X renaming rd_T65 → yaa
def impl_opsOk.l0 : Nat → List (S65) → Int → Int → Option (Bool)
 | 0, _, _, _ => none
 | k + 1, x8, x9, x10 => if x10 < x9 then (if 0 ≤ x10 then (if x10 < (x8.length : Int) then ((impl_OpOk.f k ((rd_T65 x8 x10).f0) ((rd_T65 x8 x10).f1) ((rd_T65 x8 x10).f2) ((rd_T65 x8 x10).f3) ((rd_T65 x8 x10).f4)).bind fun t103 => (if t103 = true then (impl_opsOk.l0 k x8 x9 (wrap64 (x10 + 1))) else (some false))) else (none)) else (none)) else (some true)
def impl_opsOk.f (k : Nat) (l0 : List (S65)) : Option (Bool) := if (l0.length : Int) > 5 then (some false) else (impl_opsOk.l0 k l0 (l0.length : Int) 0)
set_option maxHeartbeats 8000000 in
set_option maxRecDepth 100000 in
theorem impl_opsOk.calls (k : Nat) (A0 : Option Addr) (c0 : Nat) (l0 : List (S65)) (r : Bool) (w : World) (hr0 : Kd.C k65 w A0 l0.length l0) (hc0 : l0.length ≤ c0) (h : impl_opsOk.f k l0 = some r) :
  Calls Tryz.prog 69 #[.slice A0 l0.length c0] w fun e w' => e = .returned (.bool r) ∧ Below w.heap.size w w' := by
 have hu65 := Tryz.underlying65; have HR0 := Aside0.mk hr0; have HC0 := Aside0.mk hc0; clear hr0 hc0; have HB := Aside0.mk (Below.refl w.heap.size w); have H : (if (l0.length : Int) > 5 then (some false) else (impl_opsOk.l0 k l0 (l0.length : Int) 0)) = some r := h; clear h
 by_cases c2 : (l0.length : Int) > 5
 ·
  rw [if_pos c2] at H
  have b1 : decide (5 < (l0.length : Int)) = true := decide_eq_true c2; have b2 : decide (5 < l0.length) = true := decide_eq_true (by omega); clear c2; obtain rfl := Option.some.inj H
  go_enter Tryz.func69, Tryz.ntmps69
  go_wp2
  go_ret
  exact ⟨by first | rfl | (simp [*, errW_none, errW_some] <;> rfl), upH HB.out⟩
 rw [if_neg c2] at H
 have b1 : decide (5 < (l0.length : Int)) = false := decide_eq_false c2; have b2 : decide (5 < l0.length) = false := decide_eq_false (by omega); clear c2; have H' := Aside0.mk H; clear H
 go_enter Tryz.func69, Tryz.ntmps69
 go_wp2
 (try simp only [Act.put, List.setIfInBounds_toArray, List.set_cons_zero, List.set_cons_succ])
 go_loopg [10] k (fun kq v10 w' => ∃ (a1 : Int), v10 = .int .i64 a1 ∧ Aside0 (impl_opsOk.l0 kq l0 (l0.length : Int) a1 = some r) ∧ Aside0 (kq ≤ k) ∧ Aside0 (Below w.heap.size w w'))
 case atStart => exact ⟨(0), (by first | rfl | (simp; done) | (simp [*]; done)), H', ⟨Nat.le_refl _⟩, ⟨upH HB.out⟩⟩
 case round =>
  clear H'; (try clear c2); (try clear b1); (try clear b2); (try clear p2); obtain ⟨a1, rfl, HA, HK1, HB⟩ := hrel
  cases gk with
  | zero => exact absurd HA.out (by simp [impl_opsOk.l0])
  | succ k1 =>
   have H := HA.out; clear HA
   simp only [impl_opsOk.l0] at H
   by_cases c3 : a1 < (l0.length : Int)
   rotate_left
   ·
    rw [if_neg c3] at H
    have d0 : decide (a1 < (l0.length : Int)) = false := decide_eq_false c3; clear c3; obtain rfl := Option.some.inj H
    go_wp2
    go_ret
    exact ⟨by first | rfl | (simp [*, errW_none, errW_some] <;> rfl), upH HB.out⟩
   rw [if_pos c3] at H
   have d0 : decide (a1 < (l0.length : Int)) = true := decide_eq_true c3; clear c3
   by_cases c4 : 0 ≤ a1
   rotate_left
   ·
    rw [if_neg c4] at H
    exact absurd H (by simp)
   rw [if_pos c4] at H
   replace c4 := decide_eq_true c4
   by_cases c5 : a1 < (l0.length : Int)
   rotate_left
   ·
    rw [if_neg c5] at H
    exact absurd H (by simp)
   rw [if_pos c5] at H
   replace c5 := decide_eq_true c5; obtain ⟨d1, A6, H⟩ := bindA H; (try dsimp only at H)
   by_cases c7 : d1 = true
   ·
    subst c7
    rw [if_pos rfl] at H
    have H' := Aside0.mk H; clear H; have p101 : 0 ≤ (a1 : Int) := of_decide_eq_true (by assumption); have q101 : a1 < (l0.length : Int) := of_decide_eq_true (by assumption); obtain ⟨ad101, b0, a3, a4, a5, a6, a7⟩ := at_T65 HR0.out a1 p101 q101
    cases b0
    replace a3 := (upc_ HB.out a3 :); replace a4 := (upc_ HB.out a4 :); replace a5 := (upc_ HB.out a5 :); replace a6 := (upc_ HB.out a6 :); replace a7 := (upc_ HB.out a7 :); replace p101 := eq_true p101; replace q101 := eq_true q101
    go_wp2_with (first | ((with_reducible refine gd_ 4 rfl ?_); refine bx_ 4 rfl #[.int .i64 0, .int .i64 0, .int .i64 0, .int .i64 0, .int .i64 0] 65 ?_; intro a8 hg w8 hbox hb; have a2 := Aside0.mk (hbox); have a9 := Aside0.mk ((by rw [hg]; exact (below_size (upH HB.out)) : w.heap.size ≤ a8)); replace HB := Aside0.mk (below_step (upH HB.out) hb); have b3 := a9; clear hb hbox hg; obtain ⟨d2, d3, d4, d5, d6⟩ := cc5_ a2.out; obtain ⟨d8, d9, e0, e1⟩ := cf4_ a2.out; have e3 := blk_frozen a2.out 4) | ((with_reducible refine gc_ 67 rfl ?_); refine gl_ (some 15) rfl Tryz.func67 #[.agg #[.int .i64 ((yaa l0 a1).f0), .int .i64 ((yaa l0 a1).f1), .int .i64 ((yaa l0 a1).f2), .int .i64 ((yaa l0 a1).f3), .int .i64 ((yaa l0 a1).f4)]] ?_; (with_reducible refine (impl_OpOk.calls k1 ((yaa l0 a1).f0) ((yaa l0 a1).f1) ((yaa l0 a1).f2) ((yaa l0 a1).f3) ((yaa l0 a1).f4) true _ A6.out).mono ?_); rintro e w10 ⟨rfl, hb⟩; refine ⟨_, rfl, ?_⟩; replace a2 := Aside0.mk (blk_below (g := a8) (o := .cells #[.int .i64 ((yaa l0 a1).f0), .int .i64 ((yaa l0 a1).f1), .int .i64 ((yaa l0 a1).f2), .int .i64 ((yaa l0 a1).f3), .int .i64 ((yaa l0 a1).f4)] 65 (0, 0)) (by (repeat refine oneB ?_); refine blk_put (cs := #[.int .i64 ((yaa l0 a1).f0), .int .i64 ((yaa l0 a1).f1), .int .i64 ((yaa l0 a1).f2), .int .i64 ((yaa l0 a1).f3), .int .i64 0]) ?_ 4 _ rfl; refine blk_put (cs := #[.int .i64 ((yaa l0 a1).f0), .int .i64 ((yaa l0 a1).f1), .int .i64 ((yaa l0 a1).f2), .int .i64 0, .int .i64 0]) ?_ 3 _ rfl; refine blk_put (cs := #[.int .i64 ((yaa l0 a1).f0), .int .i64 ((yaa l0 a1).f1), .int .i64 0, .int .i64 0, .int .i64 0]) ?_ 2 _ rfl; refine blk_put (cs := #[.int .i64 ((yaa l0 a1).f0), .int .i64 0, .int .i64 0, .int .i64 0, .int .i64 0]) ?_ 1 _ rfl; refine blk_put (cs := #[.int .i64 0, .int .i64 0, .int .i64 0, .int .i64 0, .int .i64 0]) ?_ 0 _ rfl; exact upB a2.out) hb); replace HB := Aside0.mk (below_step (by repeat (with_reducible first | exact HB.out | apply below_alloc | apply pw_below_drewN | apply below_drew1 | refine below_set ?_ (Aside0.out ‹_›))) hb); (try clear hb)))
    go_roundg k1
    case measure => have := HK1.out; omega
    case rel => exact ⟨(wrap64 (a1 + 1)), (by first | rfl | (simp; done) | (simp [*]; done)), H', ⟨by have := HK1.out; omega⟩, ⟨by repeat (with_reducible first | exact HB.out | apply below_alloc | apply pw_below_drewN | apply below_drew1 | refine below_set ?_ (Aside0.out ‹_›))⟩⟩
   replace c7 := Bool.eq_false_iff.mpr c7
   subst c7
   rw [if_neg (show ¬ (false = true) by decide)] at H
   obtain rfl := Option.some.inj H; have p101 : 0 ≤ (a1 : Int) := of_decide_eq_true (by assumption); have q101 : a1 < (l0.length : Int) := of_decide_eq_true (by assumption); obtain ⟨ad101, b0, a3, a4, a5, a6, a7⟩ := at_T65 HR0.out a1 p101 q101
   cases b0
   replace a3 := (upc_ HB.out a3 :); replace a4 := (upc_ HB.out a4 :); replace a5 := (upc_ HB.out a5 :); replace a6 := (upc_ HB.out a6 :); replace a7 := (upc_ HB.out a7 :); replace p101 := eq_true p101; replace q101 := eq_true q101
   go_wp2_with (first | ((with_reducible refine gd_ 4 rfl ?_); refine bx_ 4 rfl #[.int .i64 0, .int .i64 0, .int .i64 0, .int .i64 0, .int .i64 0] 65 ?_; intro a8 hg w11 hbox hb; have a2 := Aside0.mk (hbox); have a9 := Aside0.mk ((by rw [hg]; exact (below_size (upH HB.out)) : w.heap.size ≤ a8)); replace HB := Aside0.mk (below_step (upH HB.out) hb); have b3 := a9; clear hb hbox hg; obtain ⟨b4, b5, b6, b7, b8⟩ := cc5_ a2.out; obtain ⟨b9, c1, c6, c8⟩ := cf4_ a2.out; have c9 := blk_frozen a2.out 4) | ((with_reducible refine gc_ 67 rfl ?_); refine gl_ (some 15) rfl Tryz.func67 #[.agg #[.int .i64 ((yaa l0 a1).f0), .int .i64 ((yaa l0 a1).f1), .int .i64 ((yaa l0 a1).f2), .int .i64 ((yaa l0 a1).f3), .int .i64 ((yaa l0 a1).f4)]] ?_; (with_reducible refine (impl_OpOk.calls k1 ((yaa l0 a1).f0) ((yaa l0 a1).f1) ((yaa l0 a1).f2) ((yaa l0 a1).f3) ((yaa l0 a1).f4) false _ A6.out).mono ?_); rintro e w13 ⟨rfl, hb⟩; refine ⟨_, rfl, ?_⟩; replace a2 := Aside0.mk (blk_below (g := a8) (o := .cells #[.int .i64 ((yaa l0 a1).f0), .int .i64 ((yaa l0 a1).f1), .int .i64 ((yaa l0 a1).f2), .int .i64 ((yaa l0 a1).f3), .int .i64 ((yaa l0 a1).f4)] 65 (0, 0)) (by (repeat refine oneB ?_); refine blk_put (cs := #[.int .i64 ((yaa l0 a1).f0), .int .i64 ((yaa l0 a1).f1), .int .i64 ((yaa l0 a1).f2), .int .i64 ((yaa l0 a1).f3), .int .i64 0]) ?_ 4 _ rfl; refine blk_put (cs := #[.int .i64 ((yaa l0 a1).f0), .int .i64 ((yaa l0 a1).f1), .int .i64 ((yaa l0 a1).f2), .int .i64 0, .int .i64 0]) ?_ 3 _ rfl; refine blk_put (cs := #[.int .i64 ((yaa l0 a1).f0), .int .i64 ((yaa l0 a1).f1), .int .i64 0, .int .i64 0, .int .i64 0]) ?_ 2 _ rfl; refine blk_put (cs := #[.int .i64 ((yaa l0 a1).f0), .int .i64 0, .int .i64 0, .int .i64 0, .int .i64 0]) ?_ 1 _ rfl; refine blk_put (cs := #[.int .i64 0, .int .i64 0, .int .i64 0, .int .i64 0, .int .i64 0]) ?_ 0 _ rfl; exact upB a2.out) hb); replace HB := Aside0.mk (below_step (by repeat (with_reducible first | exact HB.out | apply below_alloc | apply pw_below_drewN | apply below_drew1 | refine below_set ?_ (Aside0.out ‹_›))) hb); (try clear hb)))
   go_ret
   exact ⟨by first | rfl | (simp [*, errW_none, errW_some] <;> rfl), by repeat (with_reducible first | exact HB.out | apply below_alloc | apply pw_below_drewN | apply below_drew1 | refine below_set ?_ (Aside0.out ‹_›))⟩
end
section
open Go.Proofs.YtmplnpjdbfedbaaGreatDoorW.PrintWords.Drawn0 renaming refl → yaa, step → yab
mutual
def impl_nameOk.j0 : Nat → ByteArray → Bool → Option (Bool)
 | 0, _, _ => none
 | k + 1, x0, x13 => if x13 = true then (some false) else (impl_nameOk.l0 k x0 (x0.size : Int) 0)
def impl_nameOk.l0 : Nat → ByteArray → Int → Int → Option (Bool)
 | 0, _, _, _ => none
 | k + 1, x0, x15, x16 => if x16 < x15 then (if 0 ≤ x16 then (if x16 < (x0.size : Int) then (if (bt x0 x16) ≥ 97 then (if (bt x0 x16) ≥ 48 then (if ((bt x0 x16) ≤ 122) then (impl_nameOk.l0 k x0 x15 (wrap64 (x16 + 1))) else (if ((bt x0 x16) ≤ 57) then (impl_nameOk.l0 k x0 x15 (wrap64 (x16 + 1))) else (some false))) else (if ((bt x0 x16) ≤ 122) then (impl_nameOk.l0 k x0 x15 (wrap64 (x16 + 1))) else (some false))) else (if (bt x0 x16) ≥ 48 then (if ((bt x0 x16) ≤ 57) then (impl_nameOk.l0 k x0 x15 (wrap64 (x16 + 1))) else (some false)) else (some false))) else (none)) else (none)) else (some true)
end
def impl_nameOk.f (k : Nat) (a0 : ByteArray) : Option (Bool) := if (a0.size : Int) < 1 then (impl_nameOk.j0 k a0 true) else (impl_nameOk.j0 k a0 (decide ((a0.size : Int) > 6)))
set_option maxHeartbeats 8000000 in
set_option maxRecDepth 100000 in
theorem impl_nameOk.calls (k : Nat) (a0 : ByteArray) (r : Bool) (w : World) (h : impl_nameOk.f k a0 = some r) :
  Calls Tryz.prog 70 #[.string a0] w fun e w' => e = .returned (.bool r) ∧ Drawn0 w w' := by
 have H : (if (a0.size : Int) < 1 then (impl_nameOk.j0 k a0 true) else (impl_nameOk.j0 k a0 (decide ((a0.size : Int) > 6)))) = some r := h; clear h; have HC2 := Aside0.mk H; clear H
 go_enter Tryz.func70, Tryz.ntmps70
 go_upto_region 1 with (fail)
 go_cut [13] (fun v13 wc => ∃ (kq : Nat) (a3 : Bool), v13 = .bool a3 ∧ Aside0 (impl_nameOk.j0 kq a0 a3 = some r) ∧ Aside0 (kq ≤ k) ∧ Drawn0 w wc)
 case first =>
  have H := HC2.out; clear HC2
  by_cases c3 : (a0.size : Int) < 1
  ·
   rw [if_pos c3] at H
   have a2 : decide ((a0.size : Int) < 1) = true := decide_eq_true c3; have a6 : decide (a0.size < 1) = true := decide_eq_true (by omega); clear c3
   (first | rw [a2] | (simp only [i64_w, i32_w]; rw [a2]) | skip)
   have H' := Aside0.mk H; clear H
   go_wp2
   go_meet
   case rel => exact ⟨_, (true), (by first | rfl | (simp; done) | (simp [*]; done)), H', ⟨by first | omega | exact Nat.le_refl _⟩, by repeat (first | exact yaa _ | apply yab)⟩
  rw [if_neg c3] at H
  have a2 : decide ((a0.size : Int) < 1) = false := decide_eq_false c3; have a6 : decide (a0.size < 1) = false := decide_eq_false (by omega); clear c3
  (first | rw [a2] | (simp only [i64_w, i32_w]; rw [a2]) | skip)
  have H' := Aside0.mk H; clear H
  go_wp2
  go_meet
  case rel => exact ⟨_, (decide ((a0.size : Int) > 6)), (by first | rfl | (simp; done) | (simp [*]; done)), H', ⟨by first | omega | exact Nat.le_refl _⟩, by repeat (first | exact yaa _ | apply yab)⟩
 case rest =>
  clear HC2; (try clear p2); (try clear c3); (try clear a2); (try clear a6); obtain ⟨kq, a3, rfl, HA, HJ1, ⟨mc1, rfl⟩⟩ := hcut
  cases kq with
  | zero => exact absurd HA.out (by simp [impl_nameOk.j0])
  | succ kj1 =>
   have H := HA.out; clear HA
   simp only [impl_nameOk.j0] at H
   by_cases c4 : a3 = true
   ·
    subst c4
    rw [if_pos rfl] at H
    obtain rfl := Option.some.inj H
    go_wp2
    go_ret
    exact ⟨by first | rfl | (simp; done) | (simp [*]; done), by repeat (first | exact yaa _ | apply yab)⟩
   replace c4 := Bool.eq_false_iff.mpr c4
   subst c4
   rw [if_neg (show ¬ (false = true) by decide)] at H
   have H' := Aside0.mk H; clear H
   go_wp2
   (try simp only [Act.put, List.setIfInBounds_toArray, List.set_cons_zero, List.set_cons_succ])
   go_loopg [16] kj1 (fun kq v16 w' => ∃ (a1 : Int), v16 = .int .i64 a1 ∧ Aside0 (impl_nameOk.l0 kq a0 (a0.size : Int) a1 = some r) ∧ Aside0 (kq ≤ kj1) ∧ Drawn0 w w')
   case atStart => exact ⟨(0), (by first | rfl | (simp; done) | (simp [*]; done)), H', ⟨Nat.le_refl _⟩, by repeat (first | exact yaa _ | apply yab)⟩
   case round =>
    clear H'; (try clear c1); (try clear p2); (try clear c3); (try clear a2); (try clear a6); (try clear c4); (try clear p2); obtain ⟨a1, rfl, HA, HK2, ⟨m2, rfl⟩⟩ := hrel
    cases gk with
    | zero => exact absurd HA.out (by simp [impl_nameOk.l0])
    | succ k2 =>
     have H := HA.out; clear HA
     simp only [impl_nameOk.l0] at H
     by_cases c5 : a1 < (a0.size : Int)
     rotate_left
     ·
      rw [if_neg c5] at H
      have b5 : decide (a1 < (a0.size : Int)) = false := decide_eq_false c5; clear c5; obtain rfl := Option.some.inj H
      go_wp2
      go_ret
      exact ⟨by first | rfl | (simp; done) | (simp [*]; done), by repeat (first | exact yaa _ | apply yab)⟩
     rw [if_pos c5] at H
     have b5 : decide (a1 < (a0.size : Int)) = true := decide_eq_true c5; clear c5
     by_cases c6 : 0 ≤ a1
     rotate_left
     ·
      rw [if_neg c6] at H
      exact absurd H (by simp)
     rw [if_pos c6] at H
     replace c6 := decide_eq_true c6
     by_cases c7 : a1 < (a0.size : Int)
     rotate_left
     ·
      rw [if_neg c7] at H
      exact absurd H (by simp)
     rw [if_pos c7] at H
     replace c7 := decide_eq_true c7
     by_cases c9 : (bt a0 a1) ≥ 97
     ·
      rw [if_pos c9] at H
      have b6 : decide (97 ≤ (bt a0 a1)) = true := decide_eq_true c9; clear c9
      by_cases c12 : (bt a0 a1) ≥ 48
      ·
       rw [if_pos c12] at H
       have a7 : decide (48 ≤ (bt a0 a1)) = true := decide_eq_true c12; clear c12
       by_cases c14 : ((bt a0 a1) ≤ 122)
       ·
        rw [if_pos c14] at H
        have a8 : decide ((bt a0 a1) ≤ 122) = true := decide_eq_true c14; clear c14; have H' := Aside0.mk H; clear H; have p8 : 0 ≤ (a1 : Int) := of_decide_eq_true (by assumption); have q8 : a1 < (a0.size : Int) := of_decide_eq_true (by assumption); have hx8 := bt_at a0 a1; replace p8 := eq_true p8; replace q8 := eq_true q8; have p10 : 0 ≤ (a1 : Int) := of_decide_eq_true (by assumption); have q10 : a1 < (a0.size : Int) := of_decide_eq_true (by assumption); have a4 := bt_at a0 a1; replace p10 := eq_true p10; replace q10 := eq_true q10; have p11 : 0 ≤ (a1 : Int) := of_decide_eq_true (by assumption); have q11 : a1 < (a0.size : Int) := of_decide_eq_true (by assumption); have a5 := bt_at a0 a1; replace p11 := eq_true p11; replace q11 := eq_true q11; have p13 : 0 ≤ (a1 : Int) := of_decide_eq_true (by assumption); have q13 : a1 < (a0.size : Int) := of_decide_eq_true (by assumption); have a9 := bt_at a0 a1; replace p13 := eq_true p13; replace q13 := eq_true q13
        go_wp2
        go_roundg k2
        case measure => have := HJ1.out; have := HK2.out; omega
        case rel => exact ⟨(wrap64 (a1 + 1)), (by first | rfl | (simp; done) | (simp [*]; done)), H', ⟨by have := HJ1.out; have := HK2.out; omega⟩, by repeat (first | exact yaa _ | apply yab)⟩
       rw [if_neg c14] at H
       have a8 : decide ((bt a0 a1) ≤ 122) = false := decide_eq_false c14; clear c14
       by_cases c15 : ((bt a0 a1) ≤ 57)
       ·
        rw [if_pos c15] at H
        have b0 : decide ((bt a0 a1) ≤ 57) = true := decide_eq_true c15; clear c15; have H' := Aside0.mk H; clear H; have p8 : 0 ≤ (a1 : Int) := of_decide_eq_true (by assumption); have q8 : a1 < (a0.size : Int) := of_decide_eq_true (by assumption); have hx8 := bt_at a0 a1; replace p8 := eq_true p8; replace q8 := eq_true q8; have p10 : 0 ≤ (a1 : Int) := of_decide_eq_true (by assumption); have q10 : a1 < (a0.size : Int) := of_decide_eq_true (by assumption); have a4 := bt_at a0 a1; replace p10 := eq_true p10; replace q10 := eq_true q10; have p11 : 0 ≤ (a1 : Int) := of_decide_eq_true (by assumption); have q11 : a1 < (a0.size : Int) := of_decide_eq_true (by assumption); have a5 := bt_at a0 a1; replace p11 := eq_true p11; replace q11 := eq_true q11; have p13 : 0 ≤ (a1 : Int) := of_decide_eq_true (by assumption); have q13 : a1 < (a0.size : Int) := of_decide_eq_true (by assumption); have a9 := bt_at a0 a1; replace p13 := eq_true p13; replace q13 := eq_true q13
        go_wp2
        go_roundg k2
        case measure => have := HJ1.out; have := HK2.out; omega
        case rel => exact ⟨(wrap64 (a1 + 1)), (by first | rfl | (simp; done) | (simp [*]; done)), H', ⟨by have := HJ1.out; have := HK2.out; omega⟩, by repeat (first | exact yaa _ | apply yab)⟩
       rw [if_neg c15] at H
       have b0 : decide ((bt a0 a1) ≤ 57) = false := decide_eq_false c15; clear c15; obtain rfl := Option.some.inj H; have p8 : 0 ≤ (a1 : Int) := of_decide_eq_true (by assumption); have q8 : a1 < (a0.size : Int) := of_decide_eq_true (by assumption); have hx8 := bt_at a0 a1; replace p8 := eq_true p8; replace q8 := eq_true q8; have p10 : 0 ≤ (a1 : Int) := of_decide_eq_true (by assumption); have q10 : a1 < (a0.size : Int) := of_decide_eq_true (by assumption); have a4 := bt_at a0 a1; replace p10 := eq_true p10; replace q10 := eq_true q10; have p11 : 0 ≤ (a1 : Int) := of_decide_eq_true (by assumption); have q11 : a1 < (a0.size : Int) := of_decide_eq_true (by assumption); have a5 := bt_at a0 a1; replace p11 := eq_true p11; replace q11 := eq_true q11; have p13 : 0 ≤ (a1 : Int) := of_decide_eq_true (by assumption); have q13 : a1 < (a0.size : Int) := of_decide_eq_true (by assumption); have a9 := bt_at a0 a1; replace p13 := eq_true p13; replace q13 := eq_true q13
       go_wp2
       go_ret
       exact ⟨by first | rfl | (simp; done) | (simp [*]; done), by repeat (first | exact yaa _ | apply yab)⟩
      rw [if_neg c12] at H
      have a7 : decide (48 ≤ (bt a0 a1)) = false := decide_eq_false c12; clear c12
      by_cases c16 : ((bt a0 a1) ≤ 122)
      ·
       rw [if_pos c16] at H
       have b1 : decide ((bt a0 a1) ≤ 122) = true := decide_eq_true c16; clear c16; have H' := Aside0.mk H; clear H; have p8 : 0 ≤ (a1 : Int) := of_decide_eq_true (by assumption); have q8 : a1 < (a0.size : Int) := of_decide_eq_true (by assumption); have hx8 := bt_at a0 a1; replace p8 := eq_true p8; replace q8 := eq_true q8; have p10 : 0 ≤ (a1 : Int) := of_decide_eq_true (by assumption); have q10 : a1 < (a0.size : Int) := of_decide_eq_true (by assumption); have a4 := bt_at a0 a1; replace p10 := eq_true p10; replace q10 := eq_true q10; have p11 : 0 ≤ (a1 : Int) := of_decide_eq_true (by assumption); have q11 : a1 < (a0.size : Int) := of_decide_eq_true (by assumption); have a5 := bt_at a0 a1; replace p11 := eq_true p11; replace q11 := eq_true q11
       go_wp2
       go_roundg k2
       case measure => have := HJ1.out; have := HK2.out; omega
       case rel => exact ⟨(wrap64 (a1 + 1)), (by first | rfl | (simp; done) | (simp [*]; done)), H', ⟨by have := HJ1.out; have := HK2.out; omega⟩, by repeat (first | exact yaa _ | apply yab)⟩
      rw [if_neg c16] at H
      have b1 : decide ((bt a0 a1) ≤ 122) = false := decide_eq_false c16; clear c16; obtain rfl := Option.some.inj H; have p8 : 0 ≤ (a1 : Int) := of_decide_eq_true (by assumption); have q8 : a1 < (a0.size : Int) := of_decide_eq_true (by assumption); have hx8 := bt_at a0 a1; replace p8 := eq_true p8; replace q8 := eq_true q8; have p10 : 0 ≤ (a1 : Int) := of_decide_eq_true (by assumption); have q10 : a1 < (a0.size : Int) := of_decide_eq_true (by assumption); have a4 := bt_at a0 a1; replace p10 := eq_true p10; replace q10 := eq_true q10; have p11 : 0 ≤ (a1 : Int) := of_decide_eq_true (by assumption); have q11 : a1 < (a0.size : Int) := of_decide_eq_true (by assumption); have a5 := bt_at a0 a1; replace p11 := eq_true p11; replace q11 := eq_true q11
      go_wp2
      go_ret
      exact ⟨by first | rfl | (simp; done) | (simp [*]; done), by repeat (first | exact yaa _ | apply yab)⟩
     rw [if_neg c9] at H
     have b6 : decide (97 ≤ (bt a0 a1)) = false := decide_eq_false c9; clear c9
     by_cases c18 : (bt a0 a1) ≥ 48
     ·
      rw [if_pos c18] at H
      have b2 : decide (48 ≤ (bt a0 a1)) = true := decide_eq_true c18; clear c18
      by_cases c20 : ((bt a0 a1) ≤ 57)
      ·
       rw [if_pos c20] at H
       have b3 : decide ((bt a0 a1) ≤ 57) = true := decide_eq_true c20; clear c20; have H' := Aside0.mk H; clear H; have p8 : 0 ≤ (a1 : Int) := of_decide_eq_true (by assumption); have q8 : a1 < (a0.size : Int) := of_decide_eq_true (by assumption); have hx8 := bt_at a0 a1; replace p8 := eq_true p8; replace q8 := eq_true q8; have p17 : 0 ≤ (a1 : Int) := of_decide_eq_true (by assumption); have q17 : a1 < (a0.size : Int) := of_decide_eq_true (by assumption); have b4 := bt_at a0 a1; replace p17 := eq_true p17; replace q17 := eq_true q17; have p19 : 0 ≤ (a1 : Int) := of_decide_eq_true (by assumption); have q19 : a1 < (a0.size : Int) := of_decide_eq_true (by assumption); have b7 := bt_at a0 a1; replace p19 := eq_true p19; replace q19 := eq_true q19
       go_wp2
       go_roundg k2
       case measure => have := HJ1.out; have := HK2.out; omega
       case rel => exact ⟨(wrap64 (a1 + 1)), (by first | rfl | (simp; done) | (simp [*]; done)), H', ⟨by have := HJ1.out; have := HK2.out; omega⟩, by repeat (first | exact yaa _ | apply yab)⟩
      rw [if_neg c20] at H
      have b3 : decide ((bt a0 a1) ≤ 57) = false := decide_eq_false c20; clear c20; obtain rfl := Option.some.inj H; have p8 : 0 ≤ (a1 : Int) := of_decide_eq_true (by assumption); have q8 : a1 < (a0.size : Int) := of_decide_eq_true (by assumption); have hx8 := bt_at a0 a1; replace p8 := eq_true p8; replace q8 := eq_true q8; have p17 : 0 ≤ (a1 : Int) := of_decide_eq_true (by assumption); have q17 : a1 < (a0.size : Int) := of_decide_eq_true (by assumption); have b4 := bt_at a0 a1; replace p17 := eq_true p17; replace q17 := eq_true q17; have p19 : 0 ≤ (a1 : Int) := of_decide_eq_true (by assumption); have q19 : a1 < (a0.size : Int) := of_decide_eq_true (by assumption); have b7 := bt_at a0 a1; replace p19 := eq_true p19; replace q19 := eq_true q19
      go_wp2
      go_ret
      exact ⟨by first | rfl | (simp; done) | (simp [*]; done), by repeat (first | exact yaa _ | apply yab)⟩
     rw [if_neg c18] at H
     have b2 : decide (48 ≤ (bt a0 a1)) = false := decide_eq_false c18; clear c18; obtain rfl := Option.some.inj H; have p8 : 0 ≤ (a1 : Int) := of_decide_eq_true (by assumption); have q8 : a1 < (a0.size : Int) := of_decide_eq_true (by assumption); have hx8 := bt_at a0 a1; replace p8 := eq_true p8; replace q8 := eq_true q8; have p17 : 0 ≤ (a1 : Int) := of_decide_eq_true (by assumption); have q17 : a1 < (a0.size : Int) := of_decide_eq_true (by assumption); have b4 := bt_at a0 a1; replace p17 := eq_true p17; replace q17 := eq_true q17
     go_wp2
     go_ret
     exact ⟨by first | rfl | (simp; done) | (simp [*]; done), by repeat (first | exact yaa _ | apply yab)⟩
end
section
open Go.Proofs.YtmplnpjdbfedbaaGreatDoorW.PrintWords.Aside0 renaming mk → yaa
def impl_AskOk.f (k : Nat) (l0_0 : List (S65)) (a0_1 : ByteArray) (a0_2 : Int) : Option (Bool) := (impl_opsOk.f k l0_0).bind fun t102 => (if t102 = true then ((impl_nameOk.f k a0_1).bind fun t103 => (if t103 = true then ((impl_within.f a0_2 0 9999).bind fun t104 => (some t104)) else (some false))) else (some false))
set_option maxHeartbeats 8000000 in
set_option maxRecDepth 100000 in
theorem impl_AskOk.calls (k : Nat) (A0_0 : Option Addr) (c0_0 : Nat) (l0_0 : List (S65)) (a0_1 : ByteArray) (a0_2 : Int) (r : Bool) (w : World) (hr0_0 : Kd.C k65 w A0_0 l0_0.length l0_0) (hc0_0 : l0_0.length ≤ c0_0) (h : impl_AskOk.f k l0_0 a0_1 a0_2 = some r) :
  Calls Tryz.prog 36 #[.agg #[.slice A0_0 l0_0.length c0_0, .string a0_1, .int .i64 a0_2]] w fun e w' => e = .returned (.bool r) ∧ Below w.heap.size w w' := by
 have hu25 := Tryz.underlying25; have HR0_0 := yaa hr0_0; have HC0_0 := yaa hc0_0; clear hr0_0 hc0_0; have HB := yaa (Below.refl w.heap.size w); have H : ((impl_opsOk.f k l0_0).bind fun a9 => (if a9 = true then ((impl_nameOk.f k a0_1).bind fun b0 => (if b0 = true then ((impl_within.f a0_2 0 9999).bind fun b1 => (some b1)) else (some false))) else (some false))) = some r := h; clear h; obtain ⟨a9, A2, H⟩ := bindA H; (try dsimp only at H)
 by_cases c3 : a9 = true
 ·
  subst c3
  rw [if_pos rfl] at H
  obtain ⟨b0, A4, H⟩ := bindA H; (try dsimp only at H)
  by_cases c5 : b0 = true
  ·
   subst c5
   rw [if_pos rfl] at H
   obtain ⟨b1, A6, H⟩ := bindA H; (try dsimp only at H); obtain rfl := Option.some.inj H
   go_enter Tryz.func36, Tryz.ntmps36
   go_wp2_with (first | ((with_reducible refine gd_ 1 rfl ?_); refine bx_ 1 rfl #[.slice A0_0 l0_0.length c0_0, .string a0_1, .int .i64 a0_2] 25 ?_; intro a4 hg w7 hbox hb; have a3 := yaa (hbox); have a5 := yaa ((by rw [hg]; exact (below_size (upH HB.out)) : w.heap.size ≤ a4)); replace HB := yaa (below_step (upH HB.out) hb); have a8 := a5; clear hb hbox hg; obtain ⟨d8, d9, e0⟩ := cc3_ a3.out; obtain ⟨e1, e2⟩ := cf2_ a3.out; have e3 := blk_frozen a3.out 2) | ((with_reducible refine gc_ 69 rfl ?_); refine gl_ (some 5) rfl Tryz.func69 #[.slice A0_0 l0_0.length c0_0] ?_; (with_reducible refine (impl_opsOk.calls k _ _ l0_0 true _ ?side1 ?side2 A2.out).mono ?_); (case side1 => repeat (first | exact (Kd.C_below HR0_0.out HB.out) | (with_reducible refine Kd.C_alloc ?_ _) | (with_reducible refine Kd.C_drewN ?_ _) | (with_reducible refine Kd.C_drew ?_))); (case side2 => exact HC0_0.out); rintro e w9 ⟨rfl, hb⟩; refine ⟨_, rfl, ?_⟩; replace a3 := yaa (blk_below (upB a3.out) hb); replace HB := yaa (below_step (by repeat (with_reducible first | exact HB.out | apply below_alloc | apply pw_below_drewN | apply below_drew1 | refine below_set ?_ (Aside0.out ‹_›))) hb); (try clear hb); obtain ⟨b2, b3, b4⟩ := cc3_ a3.out; obtain ⟨b5, b6⟩ := cf2_ a3.out; have b7 := blk_frozen a3.out 2) | (go_at_call 70; (with_reducible refine (impl_nameOk.calls k a0_1 true _ A4.out).mono ?_); rintro e w' ⟨rfl, ⟨nd, rfl⟩⟩) | (go_at_call 71; (with_reducible refine (impl_within.calls a0_2 0 9999 b1 _ A6.out).mono ?_); rintro e w' ⟨rfl, ⟨nd, rfl⟩⟩))
   go_ret
   exact ⟨by first | rfl | (simp [*, errW_none, errW_some] <;> rfl), by repeat (with_reducible first | exact HB.out | apply below_alloc | apply pw_below_drewN | apply below_drew1 | refine below_set ?_ (Aside0.out ‹_›))⟩
  replace c5 := Bool.eq_false_iff.mpr c5
  subst c5
  rw [if_neg (show ¬ (false = true) by decide)] at H
  obtain rfl := Option.some.inj H
  go_enter Tryz.func36, Tryz.ntmps36
  go_wp2_with (first | ((with_reducible refine gd_ 1 rfl ?_); refine bx_ 1 rfl #[.slice A0_0 l0_0.length c0_0, .string a0_1, .int .i64 a0_2] 25 ?_; intro a4 hg w11 hbox hb; have a3 := yaa (hbox); have a5 := yaa ((by rw [hg]; exact (below_size (upH HB.out)) : w.heap.size ≤ a4)); replace HB := yaa (below_step (upH HB.out) hb); have a8 := a5; clear hb hbox hg; obtain ⟨b8, b9, c0⟩ := cc3_ a3.out; obtain ⟨c1, c2⟩ := cf2_ a3.out; have c4 := blk_frozen a3.out 2) | ((with_reducible refine gc_ 69 rfl ?_); refine gl_ (some 5) rfl Tryz.func69 #[.slice A0_0 l0_0.length c0_0] ?_; (with_reducible refine (impl_opsOk.calls k _ _ l0_0 true _ ?side1 ?side2 A2.out).mono ?_); (case side1 => repeat (first | exact (Kd.C_below HR0_0.out HB.out) | (with_reducible refine Kd.C_alloc ?_ _) | (with_reducible refine Kd.C_drewN ?_ _) | (with_reducible refine Kd.C_drew ?_))); (case side2 => exact HC0_0.out); rintro e w13 ⟨rfl, hb⟩; refine ⟨_, rfl, ?_⟩; replace a3 := yaa (blk_below (upB a3.out) hb); replace HB := yaa (below_step (by repeat (with_reducible first | exact HB.out | apply below_alloc | apply pw_below_drewN | apply below_drew1 | refine below_set ?_ (Aside0.out ‹_›))) hb); (try clear hb); obtain ⟨c6, c7, c8⟩ := cc3_ a3.out; obtain ⟨c9, d0⟩ := cf2_ a3.out; have d1 := blk_frozen a3.out 2) | (go_at_call 70; (with_reducible refine (impl_nameOk.calls k a0_1 false _ A4.out).mono ?_); rintro e w' ⟨rfl, ⟨nd, rfl⟩⟩))
  go_ret
  exact ⟨by first | rfl | (simp [*, errW_none, errW_some] <;> rfl), by repeat (with_reducible first | exact HB.out | apply below_alloc | apply pw_below_drewN | apply below_drew1 | refine below_set ?_ (Aside0.out ‹_›))⟩
 replace c3 := Bool.eq_false_iff.mpr c3
 subst c3
 rw [if_neg (show ¬ (false = true) by decide)] at H
 obtain rfl := Option.some.inj H
 go_enter Tryz.func36, Tryz.ntmps36
 go_wp2_with (first | ((with_reducible refine gd_ 1 rfl ?_); refine bx_ 1 rfl #[.slice A0_0 l0_0.length c0_0, .string a0_1, .int .i64 a0_2] 25 ?_; intro a4 hg w15 hbox hb; have a3 := yaa (hbox); have a5 := yaa ((by rw [hg]; exact (below_size (upH HB.out)) : w.heap.size ≤ a4)); replace HB := yaa (below_step (upH HB.out) hb); have a8 := a5; clear hb hbox hg; obtain ⟨d2, d3, d4⟩ := cc3_ a3.out; obtain ⟨d5, d6⟩ := cf2_ a3.out; have d7 := blk_frozen a3.out 2) | ((with_reducible refine gc_ 69 rfl ?_); refine gl_ (some 5) rfl Tryz.func69 #[.slice A0_0 l0_0.length c0_0] ?_; (with_reducible refine (impl_opsOk.calls k _ _ l0_0 false _ ?side1 ?side2 A2.out).mono ?_); (case side1 => repeat (first | exact (Kd.C_below HR0_0.out HB.out) | (with_reducible refine Kd.C_alloc ?_ _) | (with_reducible refine Kd.C_drewN ?_ _) | (with_reducible refine Kd.C_drew ?_))); (case side2 => exact HC0_0.out); rintro e w17 ⟨rfl, hb⟩; refine ⟨_, rfl, ?_⟩; replace a3 := yaa (blk_below (upB a3.out) hb); replace HB := yaa (below_step (by repeat (with_reducible first | exact HB.out | apply below_alloc | apply pw_below_drewN | apply below_drew1 | refine below_set ?_ (Aside0.out ‹_›))) hb); (try clear hb)))
 go_ret
 exact ⟨by first | rfl | (simp [*, errW_none, errW_some] <;> rfl), by repeat (with_reducible first | exact HB.out | apply below_alloc | apply pw_below_drewN | apply below_drew1 | refine below_set ?_ (Aside0.out ‹_›))⟩
end
section
mutual
def impl_numberRead.j0 : Nat → ByteArray → Bool → Option (Int × Bool)
 | 0, _, _ => none
 | k + 1, x0, x22 => if x22 = true then (some (0, false)) else (impl_numberRead.l0 k x0 0 (x0.size : Int) 0)
def impl_numberRead.l0 : Nat → ByteArray → Int → Int → Int → Option (Int × Bool)
 | 0, _, _, _, _ => none
 | k + 1, x0, x4, x24, x25 => if x25 < x24 then (if 0 ≤ x25 then (if x25 < (x0.size : Int) then (if (bt x0 x25) < 48 then (some (0, false)) else (if (bt x0 x25) > 57 then (some (0, false)) else (impl_numberRead.l0 k x0 (wrap64 ((wrap64 (10 * x4)) + (((bt x0 x25) - 48) % 256))) x24 (wrap64 (x25 + 1))))) else (none)) else (none)) else (some (x4, true))
end
def impl_numberRead.f (k : Nat) (a0 : ByteArray) : Option (Int × Bool) := if a0.toList = ([] : List UInt8) then (impl_numberRead.j0 k a0 true) else (if (a0.size : Int) > 6 then (impl_numberRead.j0 k a0 true) else (if 0 < (a0.size : Int) then (if (bt a0 0) = 48 then (impl_numberRead.j0 k a0 (decide ((a0.size : Int) > 1))) else (impl_numberRead.j0 k a0 false)) else (none)))
set_option maxHeartbeats 8000000 in
set_option maxRecDepth 100000 in
theorem impl_numberRead.calls (k : Nat) (a0 : ByteArray) (r1 : Int) (r2 : Bool) (w : World) (h : impl_numberRead.f k a0 = some (r1, r2)) :
  Calls Tryz.prog 35 #[.string a0] w fun e w' => e = .returned (.tuple #[.int .i64 r1, .bool r2]) ∧ Drawn0 w w' := by
 have H : (if a0.toList = ([] : List UInt8) then (impl_numberRead.j0 k a0 true) else (if (a0.size : Int) > 6 then (impl_numberRead.j0 k a0 true) else (if 0 < (a0.size : Int) then (if (bt a0 0) = 48 then (impl_numberRead.j0 k a0 (decide ((a0.size : Int) > 1))) else (impl_numberRead.j0 k a0 false)) else (none)))) = some (r1, r2) := h; clear h; have HC2 := Aside0.mk H; clear H
 go_enter Tryz.func35, Tryz.ntmps35
 go_upto_region 1 with (fail)
 go_cut [22] (fun v22 wc => ∃ (kq : Nat) (a3 : Bool), v22 = .bool a3 ∧ Aside0 (impl_numberRead.j0 kq a0 a3 = some (r1, r2)) ∧ Aside0 (kq ≤ k) ∧ Drawn0 w wc)
 case first =>
  have H := HC2.out; clear HC2
  by_cases c3 : a0.toList = ([] : List UInt8)
  ·
   rw [if_pos c3] at H
   have a2 := beq_iff_eq.mpr c3; have a5 := bne_eq_false_iff_eq.mpr c3; clear c3
   (first | rw [a2] | (simp only [i64_w, i32_w]; rw [a2]) | skip)
   have H' := Aside0.mk H; clear H
   go_wp2
   go_meet
   case rel => exact ⟨_, (true), (by first | rfl | (simp; done) | (simp [*]; done)), H', ⟨by first | omega | exact Nat.le_refl _⟩, by repeat (first | exact Drawn0.refl _ | apply Drawn0.step)⟩
  rw [if_neg c3] at H
  have a2 := beq_eq_false_iff_ne.mpr c3; have a5 := bne_iff_ne.mpr c3
  (first | rw [a2] | (simp only [i64_w, i32_w]; rw [a2]) | skip)
  by_cases c4 : (a0.size : Int) > 6
  ·
   rw [if_pos c4] at H
   have a6 : decide (6 < (a0.size : Int)) = true := decide_eq_true c4; have a7 : decide (6 < a0.size) = true := decide_eq_true (by omega); clear c4; have H' := Aside0.mk H; clear H
   go_wp2
   go_meet
   case rel => exact ⟨_, (true), (by first | rfl | (simp; done) | (simp [*]; done)), H', ⟨by first | omega | exact Nat.le_refl _⟩, by repeat (first | exact Drawn0.refl _ | apply Drawn0.step)⟩
  rw [if_neg c4] at H
  have a6 : decide (6 < (a0.size : Int)) = false := decide_eq_false c4; have a7 : decide (6 < a0.size) = false := decide_eq_false (by omega); clear c4
  by_cases c5 : 0 < (a0.size : Int)
  ·
   rw [if_pos c5] at H
   have b0 : decide (0 < (a0.size : Int)) = true := decide_eq_true c5; have b1 : decide (0 < a0.size) = true := decide_eq_true (by omega); clear c5
   by_cases c7 : (bt a0 0) = 48
   ·
    rw [if_pos c7] at H
    have a8 := beq_iff_eq.mpr c7; have a9 := bne_eq_false_iff_eq.mpr c7; clear c7; have H' := Aside0.mk H; clear H; have p6 : 0 ≤ (0 : Int) := (by omega); have q6 : 0 < a0.size := (by have : (0 : Int) < (a0.size : Int) := of_decide_eq_true (by assumption); omega); have hx6 : ∀ h : 0 < a0.size, ((a0[0]'h).toNat : Int) = bt a0 0 := bt_at a0 0; clear p6; have qi6 : (0 < (a0.size : Int)) = True := eq_true (of_decide_eq_true (by assumption)); replace q6 := eq_true q6
    go_wp2
    go_meet
    case rel => exact ⟨_, (decide ((a0.size : Int) > 1)), (by first | rfl | (simp; done) | (simp [*]; done)), H', ⟨by first | omega | exact Nat.le_refl _⟩, by repeat (first | exact Drawn0.refl _ | apply Drawn0.step)⟩
   rw [if_neg c7] at H
   have a8 := beq_eq_false_iff_ne.mpr c7; have a9 := bne_iff_ne.mpr c7; have H' := Aside0.mk H; clear H; have p6 : 0 ≤ (0 : Int) := (by omega); have q6 : 0 < a0.size := (by have : (0 : Int) < (a0.size : Int) := of_decide_eq_true (by assumption); omega); have hx6 : ∀ h : 0 < a0.size, ((a0[0]'h).toNat : Int) = bt a0 0 := bt_at a0 0; clear p6; have qi6 : (0 < (a0.size : Int)) = True := eq_true (of_decide_eq_true (by assumption)); replace q6 := eq_true q6
   go_wp2
   go_meet
   case rel => exact ⟨_, (false), (by first | rfl | (simp; done) | (simp [*]; done)), H', ⟨by first | omega | exact Nat.le_refl _⟩, by repeat (first | exact Drawn0.refl _ | apply Drawn0.step)⟩
  rw [if_neg c5] at H
  exact absurd H (by simp)
 case rest =>
  clear HC2; (try clear p2); (try clear c3); (try clear a2); (try clear a5); (try clear c4); (try clear a6); (try clear a7); (try clear c5); (try clear b0); (try clear b1); (try clear p6); (try clear q6); (try clear hx6); (try clear qi6); (try clear c7); (try clear a8); (try clear a9); (try clear p6); (try clear q6); obtain ⟨kq, a3, rfl, HA, HJ1, ⟨mc1, rfl⟩⟩ := hcut
  cases kq with
  | zero => exact absurd HA.out (by simp [impl_numberRead.j0])
  | succ kj1 =>
   have H := HA.out; clear HA
   simp only [impl_numberRead.j0] at H
   by_cases c8 : a3 = true
   ·
    subst c8
    rw [if_pos rfl] at H
    simp only [Option.some.injEq, Prod.mk.injEq] at H
    obtain ⟨rfl, rfl⟩ := H
    go_wp2
    go_ret2
    exact ⟨by first | rfl | (simp; done) | (simp [*]; done), by repeat (first | exact Drawn0.refl _ | apply Drawn0.step)⟩
   replace c8 := Bool.eq_false_iff.mpr c8
   subst c8
   rw [if_neg (show ¬ (false = true) by decide)] at H
   have H' := Aside0.mk H; clear H
   go_wp2
   (try simp only [Act.put, List.setIfInBounds_toArray, List.set_cons_zero, List.set_cons_succ])
   go_loopg [4, 25] kj1 (fun kq v4 v25 w' => ∃ (a4 : Int) (a1 : Int), v4 = .int .i64 a4 ∧ v25 = .int .i64 a1 ∧ Aside0 (impl_numberRead.l0 kq a0 a4 (a0.size : Int) a1 = some (r1, r2)) ∧ Aside0 (kq ≤ kj1) ∧ Drawn0 w w')
   case atStart => exact ⟨(0), (0), (by first | rfl | (simp; done) | (simp [*]; done)), (by first | rfl | (simp; done) | (simp [*]; done)), H', ⟨Nat.le_refl _⟩, by repeat (first | exact Drawn0.refl _ | apply Drawn0.step)⟩
   case round =>
    clear H'; (try clear c1); (try clear p2); (try clear c3); (try clear a2); (try clear a5); (try clear c4); (try clear a6); (try clear a7); (try clear c5); (try clear b0); (try clear b1); (try clear p6); (try clear q6); (try clear hx6); (try clear qi6); (try clear c7); (try clear a8); (try clear a9); (try clear c8); (try clear p2); (try clear p6); (try clear q6); obtain ⟨a4, a1, rfl, rfl, HA, HK2, ⟨m2, rfl⟩⟩ := hrel
    cases gk with
    | zero => exact absurd HA.out (by simp [impl_numberRead.l0])
    | succ k2 =>
     have H := HA.out; clear HA
     simp only [impl_numberRead.l0] at H
     by_cases c9 : a1 < (a0.size : Int)
     rotate_left
     ·
      rw [if_neg c9] at H
      have b5 : decide (a1 < (a0.size : Int)) = false := decide_eq_false c9; clear c9
      simp only [Option.some.injEq, Prod.mk.injEq] at H
      obtain ⟨rfl, rfl⟩ := H
      go_wp2
      go_ret2
      exact ⟨by first | rfl | (simp; done) | (simp [*]; done), by repeat (first | exact Drawn0.refl _ | apply Drawn0.step)⟩
     rw [if_pos c9] at H
     have b5 : decide (a1 < (a0.size : Int)) = true := decide_eq_true c9; clear c9
     by_cases c10 : 0 ≤ a1
     rotate_left
     ·
      rw [if_neg c10] at H
      exact absurd H (by simp)
     rw [if_pos c10] at H
     replace c10 := decide_eq_true c10
     by_cases c11 : a1 < (a0.size : Int)
     rotate_left
     ·
      rw [if_neg c11] at H
      exact absurd H (by simp)
     rw [if_pos c11] at H
     replace c11 := decide_eq_true c11
     by_cases c13 : (bt a0 a1) < 48
     ·
      rw [if_pos c13] at H
      have b2 : decide ((bt a0 a1) < 48) = true := decide_eq_true c13; clear c13
      simp only [Option.some.injEq, Prod.mk.injEq] at H
      obtain ⟨rfl, rfl⟩ := H; have p12 : 0 ≤ (a1 : Int) := of_decide_eq_true (by assumption); have q12 : a1 < (a0.size : Int) := of_decide_eq_true (by assumption); have b3 := bt_at a0 a1; replace p12 := eq_true p12; replace q12 := eq_true q12
      go_wp2
      go_ret2
      exact ⟨by first | rfl | (simp; done) | (simp [*]; done), by repeat (first | exact Drawn0.refl _ | apply Drawn0.step)⟩
     rw [if_neg c13] at H
     have b2 : decide ((bt a0 a1) < 48) = false := decide_eq_false c13; clear c13
     by_cases c15 : (bt a0 a1) > 57
     ·
      rw [if_pos c15] at H
      have b4 : decide (57 < (bt a0 a1)) = true := decide_eq_true c15; clear c15
      simp only [Option.some.injEq, Prod.mk.injEq] at H
      obtain ⟨rfl, rfl⟩ := H; have p12 : 0 ≤ (a1 : Int) := of_decide_eq_true (by assumption); have q12 : a1 < (a0.size : Int) := of_decide_eq_true (by assumption); have b3 := bt_at a0 a1; replace p12 := eq_true p12; replace q12 := eq_true q12; have p14 : 0 ≤ (a1 : Int) := of_decide_eq_true (by assumption); have q14 : a1 < (a0.size : Int) := of_decide_eq_true (by assumption); have b6 := bt_at a0 a1; replace p14 := eq_true p14; replace q14 := eq_true q14
      go_wp2
      go_ret2
      exact ⟨by first | rfl | (simp; done) | (simp [*]; done), by repeat (first | exact Drawn0.refl _ | apply Drawn0.step)⟩
     rw [if_neg c15] at H
     have b4 : decide (57 < (bt a0 a1)) = false := decide_eq_false c15; clear c15; have H' := Aside0.mk H; clear H; have p12 : 0 ≤ (a1 : Int) := of_decide_eq_true (by assumption); have q12 : a1 < (a0.size : Int) := of_decide_eq_true (by assumption); have b3 := bt_at a0 a1; replace p12 := eq_true p12; replace q12 := eq_true q12; have p14 : 0 ≤ (a1 : Int) := of_decide_eq_true (by assumption); have q14 : a1 < (a0.size : Int) := of_decide_eq_true (by assumption); have b6 := bt_at a0 a1; replace p14 := eq_true p14; replace q14 := eq_true q14; have p16 : 0 ≤ (a1 : Int) := of_decide_eq_true (by assumption); have q16 : a1 < (a0.size : Int) := of_decide_eq_true (by assumption); have b7 := bt_at a0 a1; replace p16 := eq_true p16; replace q16 := eq_true q16
     go_wp2
     go_roundg k2
     case measure => have := HJ1.out; have := HK2.out; omega
     case rel => exact ⟨(wrap64 ((wrap64 (10 * a4)) + (((bt a0 a1) - 48) % 256))), (wrap64 (a1 + 1)), (by first | rfl | (simp; done) | (simp [*]; done)), (by first | rfl | (simp; done) | (simp [*]; done)), H', ⟨by have := HJ1.out; have := HK2.out; omega⟩, by repeat (first | exact Drawn0.refl _ | apply Drawn0.step)⟩
end
section
def IsS77 (w0 W : World) (g : Nat) (f0 : List Int) (f1 : Int) : Prop := ∃ A0 c0, W.heap[g]? = some (.cells #[.slice A0 f0.length c0, .int .i64 f1] 77 (0, 0)) ∧ w0.heap.size ≤ g ∧ Kd.C (Kd.int .u8) w0 A0 f0.length f0
theorem IsS77.grown {w0 W : World} {g : Nat} {f0 : List Int} {f1 : Int} {W1 : World} {row : Option Nat} (h : IsS77 w0 W g f0 f1) (hw : W.grownBy W1 row) (hne : some g ≠ row) : IsS77 w0 W1 g f0 f1 := by
  obtain ⟨A0, c0, hb, hg, hr0⟩ := h
  exact ⟨A0, c0, blk_grown hb hw hne, hg, hr0⟩
theorem IsS77.fresh {w0 W : World} {g : Nat} {f0 : List Int} {f1 : Int} (h : IsS77 w0 W g f0 f1) : ∀ k, W.heap.size ≤ k → k ≠ g := by
  obtain ⟨A0, c0, hb, hg, hr0⟩ := h
  exact Kd.freshB hb
theorem IsS77.kept {w0 W : World} {g : Nat} {f0 : List Int} {f1 : Int} {W1 : World} {S : Nat → Prop} (h : IsS77 w0 W g f0 f1) (hk : Kept W W1 S) (hne : ¬ S g) : IsS77 w0 W1 g f0 f1 := by
  obtain ⟨A0, c0, hb, hg, hr0⟩ := h
  exact ⟨A0, c0, blk_kept hb hk hne, hg, hr0⟩
theorem IsS77.below {w0 W : World} {g : Nat} {f0 : List Int} {f1 : Int} {W1 : World} (h : IsS77 w0 W g f0 f1) (hw : Below W.heap.size W W1) : IsS77 w0 W1 g f0 f1 := h.grown (grown_of_below hw none) (by simp)
theorem IsS77.alloc {w0 W : World} {g : Nat} {f0 : List Int} {f1 : Int} (h : IsS77 w0 W g f0 f1) (o : Obj) : IsS77 w0 (W.alloc o) g f0 f1 := h.below (below_alloc (Below.refl _ _) o)
theorem IsS77.drewN {w0 W : World} {g : Nat} {f0 : List Int} {f1 : Int} (h : IsS77 w0 W g f0 f1) (m : Nat) : IsS77 w0 (W.drewN m) g f0 f1 := h
theorem IsS77.drew {w0 W : World} {g : Nat} {f0 : List Int} {f1 : Int} (h : IsS77 w0 W g f0 f1) : IsS77 w0 W.drew g f0 f1 := h
theorem IsS77.at_ {w0 W : World} {g : Nat} {f0 : List Int} {f1 : Int} {w' : World} {m : Nat} (hq : W.drewN m = w') (h : IsS77 w0 W g f0 f1) : IsS77 w0 w' g f0 f1 := by subst hq; exact IsS77.drewN h m
theorem IsS77.apart {w0 W : World} {g : Nat} {f0 : List Int} {f1 : Int} {α : Type} {d : Kd α} {e : Nat} {base : Nat} {ok : Nat → Prop} {v : Value} {xs : List α} (h : IsS77 w0 W g f0 f1) (ho : d.R e W base ok v xs) (ht : ∀ q, q ∈ e :: d.E → q ≠ 77) : d.R e W base (fun k => ok k ∧ k ≠ g) v xs := by
  obtain ⟨A0, c0, hb, hg, hr0⟩ := h
  exact Kd.R_types ho hb ht
theorem IsS77.own_ne {w0 W : World} {g : Nat} {f0 : List Int} {f1 : Int} {α : Type} {d : Kd α} {e : Nat} {base : Nat} {ok : Nat → Prop} {v : Value} {xs : List α} (h : IsS77 w0 W g f0 f1) (ho : d.R e W base ok v xs) (ht : e ≠ 77) : some g ≠ v.ownBlock := by
  obtain ⟨A0, c0, hb, hg, hr0⟩ := h
  exact Kd.R_ne ho hb ht
theorem IsS77.lt {w0 W : World} {g : Nat} {f0 : List Int} {f1 : Int} (h : IsS77 w0 W g f0 f1) : g < W.heap.size := by
  obtain ⟨A0, c0, hb, hg, hr0⟩ := h
  exact blk_lt hb
theorem IsS77.ge {w0 W : World} {g : Nat} {f0 : List Int} {f1 : Int} (h : IsS77 w0 W g f0 f1) : w0.heap.size ≤ g := by
  obtain ⟨A0, c0, hb, hg, hr0⟩ := h
  exact hg
theorem IsS77.far {w0 W : World} {g : Nat} {f0 : List Int} {f1 : Int} {p : Addr} (h : IsS77 w0 W g f0 f1) (hne : g ≠ p.block) (u : Value) : IsS77 w0 (W.setCell p u) g f0 f1 := by
  obtain ⟨A0, c0, hb, hg, hr0⟩ := h
  exact ⟨A0, c0, blk_far hb hne u, hg, hr0⟩
theorem cellS77_0 {W : World} {g : Nat} {A0 : Option Addr} {c0 : Nat} {f0 : List Int} {f1 : Int} (h : W.heap[g]? = some (.cells #[.slice A0 f0.length c0, .int .i64 f1] 77 (0, 0))) : W.cell? ⟨g, 0, none⟩ = some (.slice A0 f0.length c0) := (blk_cell h 0).trans rfl
theorem cellS77_1 {W : World} {g : Nat} {A0 : Option Addr} {c0 : Nat} {f0 : List Int} {f1 : Int} (h : W.heap[g]? = some (.cells #[.slice A0 f0.length c0, .int .i64 f1] 77 (0, 0))) : W.cell? ⟨g, 1, none⟩ = some (.int .i64 f1) := (blk_cell h 1).trans rfl
theorem IsS77.set_1 {w0 W : World} {g : Nat} {f0 : List Int} {f1 : Int} (h : IsS77 w0 W g f0 f1) (x : Int) : IsS77 w0 (W.setCell ⟨g, 1, none⟩ (.int .i64 x)) g f0 x := by
  obtain ⟨A0, c0, hb, hg, hr0⟩ := h
  exact ⟨A0, c0, by simpa using blk_set hb 1 (.int .i64 x), hg, hr0⟩
theorem IsS77.new (w0 W : World) (A0 : Option Addr) (c0 : Nat) (f0 : List Int) (f1 : Int) (hB : Below w0.heap.size w0 W) (hr0 : Kd.C (Kd.int .u8) w0 A0 f0.length f0) : IsS77 w0 (W.alloc (.cells #[.slice A0 f0.length c0, .int .i64 f1] 77)) W.heap.size f0 f1 := ⟨A0, c0, by simpa using heap_alloc_new W _, hB.size, hr0⟩
open Go.Proofs.YtmplnpjdbfedbaaGreatDoorW.PrintWords.Aside0 renaming mk → yaa
def spec_l20Open.f (l0 : List Int) : Option (List Int × Int) := if (l0.length : Int) > 2000 then (if 2000 ≤ (l0.length : Int) then (some (l0.take 2000, 0)) else (none)) else (some (l0, 0))
set_option maxHeartbeats 8000000 in
set_option maxRecDepth 100000 in
theorem spec_l20Open.calls (A0 : Option Addr) (c0 : Nat) (l0 : List Int) (r1 : List Int) (r2 : Int) (w0 w : World) (hB : Below w0.heap.size w0 w) (hr0 : Kd.C (Kd.int .u8) w0 A0 l0.length l0) (hc0 : l0.length ≤ c0) (h : spec_l20Open.f l0 = some (r1, r2)) :
  Calls Tryz.prog 17 #[.slice A0 l0.length c0] w fun e w' => ∃ g_ : Nat, e = .returned (.pointer (some ⟨g_, 0, none⟩)) ∧ IsS77 w0 w' g_ r1 r2 ∧ Below w0.heap.size w0 w' ∧ Below w.heap.size w w' := by
 have hu77 := Tryz.underlying77; have HR0 := yaa hr0; have HC0 := yaa hc0; clear hr0 hc0; have HBW := yaa (Below.refl w.heap.size w); have HW0 := yaa hB.size; have HB := yaa hB; clear hB; have H : (if (l0.length : Int) > 2000 then (if 2000 ≤ (l0.length : Int) then (some (l0.take 2000, 0)) else (none)) else (some (l0, 0))) = some (r1, r2) := h; clear h
 by_cases c2 : (l0.length : Int) > 2000
 ·
  rw [if_pos c2] at H
  have a7 : decide (2000 < (l0.length : Int)) = true := decide_eq_true c2; have a8 : decide (2000 < l0.length) = true := decide_eq_true (by omega); clear c2
  by_cases c3 : 2000 ≤ (l0.length : Int)
  ·
   rw [if_pos c3] at H
   have b1 := eq_true c3; replace c3 := decide_eq_true c3
   simp only [Option.some.injEq, Prod.mk.injEq] at H
   obtain ⟨rfl, rfl⟩ := H; obtain ⟨i04, hi04, _, a2, _⟩ := info_parts info5; obtain ⟨hcut4, hA4, hC4⟩ := print_take_of (P := Tryz.prog) (Value.int .u8) 0 22 5 .i64 Tryz.underlying22 hi04 a2 A0 c0 l0 2000 (by omega) (of_decide_eq_true (by assumption)) HC0.out; have HR101 := yaa (Kd.C_of_reads (h1 := fun _ => rfl) (hA4 _ (Kd.reads_of_C HR0.out))); have HC101 := yaa hC4; clear hA4 hC4 hi04 a2
   go_enter Tryz.func17, Tryz.ntmps17
   go_wp2_with (first | ((with_reducible refine gd_ 10 rfl ?_); refine bx_ 10 rfl #[.slice A0 (l0.take 2000).length c0, .int .i64 0] 77 ?_; intro a0 hg w5 hbox hb; replace HB := yaa (below_step (upH HB.out) hb); have a3 := yaa (hbox); have a9 := yaa ((by rw [hg]; exact (below_size (upH HBW.out)) : w.heap.size ≤ a0)); have a4 := yaa ((Nat.le_trans HW0.out (by rw [hg]; exact (below_size (upH HBW.out)) : w.heap.size ≤ a0) : w0.heap.size ≤ a0)); replace HBW := yaa (below_step HBW.out hb); clear hb hbox hg))
   go_ret
   exact ⟨_, rfl, (show IsS77 w0 _ a0 (l0.take 2000) 0 from ⟨_, _, by exact upB a3.out, a4.out, HR101.out⟩), by repeat (with_reducible first | exact HB.out | apply below_alloc | apply pw_below_drewN | apply below_drew1 | refine below_set ?_ (Aside0.out ‹_›)), by repeat (with_reducible first | exact HBW.out | apply below_alloc | apply pw_below_drewN | apply below_drew1 | refine below_set ?_ (Aside0.out ‹_›))⟩
  rw [if_neg c3] at H
  exact absurd H (by simp)
 rw [if_neg c2] at H
 have a7 : decide (2000 < (l0.length : Int)) = false := decide_eq_false c2; have a8 : decide (2000 < l0.length) = false := decide_eq_false (by omega); clear c2
 simp only [Option.some.injEq, Prod.mk.injEq] at H
 obtain ⟨rfl, rfl⟩ := H
 go_enter Tryz.func17, Tryz.ntmps17
 go_wp2_with (first | ((with_reducible refine gd_ 10 rfl ?_); refine bx_ 10 rfl #[.slice A0 l0.length c0, .int .i64 0] 77 ?_; intro a1 hg w6 hbox hb; replace HB := yaa (below_step (upH HB.out) hb); have a5 := yaa (hbox); have b0 := yaa ((by rw [hg]; exact (below_size (upH HBW.out)) : w.heap.size ≤ a1)); have a6 := yaa ((Nat.le_trans HW0.out (by rw [hg]; exact (below_size (upH HBW.out)) : w.heap.size ≤ a1) : w0.heap.size ≤ a1)); replace HBW := yaa (below_step HBW.out hb); clear hb hbox hg))
 go_ret
 exact ⟨_, rfl, (show IsS77 w0 _ a1 l0 0 from ⟨_, _, by exact upB a5.out, a6.out, HR0.out⟩), by repeat (with_reducible first | exact HB.out | apply below_alloc | apply pw_below_drewN | apply below_drew1 | refine below_set ?_ (Aside0.out ‹_›)), by repeat (with_reducible first | exact HBW.out | apply below_alloc | apply pw_below_drewN | apply below_drew1 | refine below_set ?_ (Aside0.out ‹_›))⟩
end
section
def spec_l20Rd_pick.j0 : Nat → Int → Bool → List Int → Int → Option (Int × Int)
 | 0, _, _, _, _ => none
 | k + 1, x1, x24, x1000, x1001 => if x24 = true then (some (0, x1001)) else (if (wrap64 (x1001 - 1)) < (x1000.length : Int) then (if 0 ≤ (wrap64 (x1001 - 1)) then (if x1 = 0 then (none) else (some (Int.tmod (wrap64 (rd x1000 (wrap64 (x1001 - 1)))) x1, x1001))) else (none)) else (if (x1000.length : Int) = 0 then (none) else (if 0 ≤ (Int.tmod (wrap64 (x1001 - 1)) (x1000.length : Int)) then (if (Int.tmod (wrap64 (x1001 - 1)) (x1000.length : Int)) < (x1000.length : Int) then (if 0 ≤ (Int.tmod (wrap64 ((wrap64 ((wrap64 (x1001 - 1)) * 7)) + 3)) (x1000.length : Int)) then (if (Int.tmod (wrap64 ((wrap64 ((wrap64 (x1001 - 1)) * 7)) + 3)) (x1000.length : Int)) < (x1000.length : Int) then (if x1 = 0 then (none) else (some (Int.tmod (Go.bits .xor .i64 (wrap64 ((wrap64 ((wrap64 ((wrap64 ((wrap64 (rd x1000 (Int.tmod (wrap64 (x1001 - 1)) (x1000.length : Int)))) * 131)) + (wrap64 ((wrap64 (rd x1000 (Int.tmod (wrap64 ((wrap64 ((wrap64 (x1001 - 1)) * 7)) + 3)) (x1000.length : Int)))) * 1117)))) + (wrap64 ((wrap64 (x1001 - 1)) * 29)))) + (wrap64 ((wrap64 (Int.tdiv (wrap64 (x1001 - 1)) (x1000.length : Int))) * 53)))) (wrap64 (Int.tdiv (wrap64 ((wrap64 ((wrap64 ((wrap64 ((wrap64 (rd x1000 (Int.tmod (wrap64 (x1001 - 1)) (x1000.length : Int)))) * 131)) + (wrap64 ((wrap64 (rd x1000 (Int.tmod (wrap64 ((wrap64 ((wrap64 (x1001 - 1)) * 7)) + 3)) (x1000.length : Int)))) * 1117)))) + (wrap64 ((wrap64 (x1001 - 1)) * 29)))) + (wrap64 ((wrap64 (Int.tdiv (wrap64 (x1001 - 1)) (x1000.length : Int))) * 53)))) 64))) x1, x1001))) else (none)) else (none)) else (none)) else (none))))
def spec_l20Rd_pick.f (k : Nat) (s0_0 : List Int) (s0_1 : Int) (a1 : Int) : Option (Int × Int) := if a1 < 1 then (spec_l20Rd_pick.j0 k a1 true s0_0 (wrap64 (s0_1 + 1))) else (spec_l20Rd_pick.j0 k a1 ((s0_0.length : Int) == 0) s0_0 (wrap64 (s0_1 + 1)))
set_option maxHeartbeats 8000000 in
set_option maxRecDepth 100000 in
theorem spec_l20Rd_pick.calls (k : Nat) (g : Nat) (s0_0 : List Int) (s0_1 : Int) (a1 : Int) (r1 : Int) (r2 : Int) (w0 w : World) (hI : IsS77 w0 w g s0_0 s0_1) (hB : Below w0.heap.size w0 w) (h : spec_l20Rd_pick.f k s0_0 s0_1 a1 = some (r1, r2)) :
  Calls Tryz.prog 27 #[.pointer (some ⟨g, 0, none⟩), .int .i64 a1] w fun e w' => e = .returned (.int .i64 r1) ∧ IsS77 w0 w' g s0_0 r2 ∧ Below w0.heap.size w0 w' ∧ KeepBut w w' g none := by
 have HI0 := Aside0.mk hI; have HK := Aside0.mk (KeepBut.refl w g none); have HL := Aside0.mk hB.size; clear hI; have HW0 := Aside0.mk hB.size; have HB := Aside0.mk hB; clear hB; have H : (if a1 < 1 then (spec_l20Rd_pick.j0 k a1 true s0_0 (wrap64 (s0_1 + 1))) else (spec_l20Rd_pick.j0 k a1 ((s0_0.length : Int) == 0) s0_0 (wrap64 (s0_1 + 1)))) = some (r1, r2) := h; clear h; have HC3 := Aside0.mk H; clear H; obtain ⟨d1, d2, HGz4, hgz4, HSz4_0⟩ := HI0.out; have b0 := cellS77_0 HGz4; have b1 := cellS77_1 HGz4; have b2 := blk_frozen HGz4 1; clear HGz4 hgz4
 go_enter Tryz.func27, Tryz.ntmps27
 go_upto_region 2 with (fail)
 repeat (go_quiet (fail); go_upto_region 2 with (fail))
 go_cut [24] (fun v24 wc => ∃ (kq : Nat) (a5 : Bool), v24 = .bool a5 ∧ Aside0 (spec_l20Rd_pick.j0 kq a1 a5 s0_0 (wrap64 (s0_1 + 1)) = some (r1, r2)) ∧ Aside0 (kq ≤ k) ∧ Aside0 (IsS77 w0 wc g s0_0 (wrap64 (s0_1 + 1))) ∧ Aside0 (KeepBut w wc g none) ∧ Aside0 (Below w0.heap.size w0 wc))
 case first =>
  have H := HC3.out; clear HC3
  by_cases c5 : a1 < 1
  ·
   rw [if_pos c5] at H
   have a9 : decide (a1 < 1) = true := decide_eq_true c5; clear c5
   (first | rw [a9] | (simp only [i64_w, i32_w]; rw [a9]) | skip)
   have H' := Aside0.mk H; clear H
   go_wp2
   repeat (go_quiet (fail); try go_wp2)
   go_meet
   case rel => exact ⟨_, (true), (by first | rfl | (simp; done) | (simp [*]; done)), H', ⟨by first | omega | exact Nat.le_refl _⟩, ⟨by repeat (with_reducible first | exact HI0.out | apply IsS77.alloc | apply IsS77.drewN | apply IsS77.drew | apply IsS77.set_1)⟩, ⟨by repeat (with_reducible first | exact HK.out | apply KeepBut.set_ | apply keep_drewN | apply keep_drew | apply keep_alloc)⟩, ⟨by repeat (with_reducible first | exact HB.out | apply below_alloc | apply pw_below_drewN | apply below_drew1 | refine below_set ?_ (IsS77.ge HI0.out))⟩⟩
  rw [if_neg c5] at H
  have a9 : decide (a1 < 1) = false := decide_eq_false c5; clear c5
  (first | rw [a9] | (simp only [i64_w, i32_w]; rw [a9]) | skip)
  have H' := Aside0.mk H; clear H; obtain ⟨d3, d4, HGz6, hgz6, HSz6_0⟩ := HI0.out; have b3 := cellS77_0 HGz6; have b4 := cellS77_1 HGz6; have b5 := blk_frozen HGz6 1; clear HGz6 hgz6
  go_wp2
  repeat (go_quiet (fail); try go_wp2)
  go_meet
  case rel => exact ⟨_, (((s0_0.length : Int) == 0)), (by first | rfl | (simp; done) | (simp [*]; done)), H', ⟨by first | omega | exact Nat.le_refl _⟩, ⟨by repeat (with_reducible first | exact HI0.out | apply IsS77.alloc | apply IsS77.drewN | apply IsS77.drew | apply IsS77.set_1)⟩, ⟨by repeat (with_reducible first | exact HK.out | apply KeepBut.set_ | apply keep_drewN | apply keep_drew | apply keep_alloc)⟩, ⟨by repeat (with_reducible first | exact HB.out | apply below_alloc | apply pw_below_drewN | apply below_drew1 | refine below_set ?_ (IsS77.ge HI0.out))⟩⟩
 case rest =>
  clear HC3; (try clear c2); (try clear p2); (try clear c5); (try clear a9); (try clear p6); (try clear b0); (try clear b1); (try clear b3); (try clear b4); (try clear b2); (try clear b5); obtain ⟨kq, a5, rfl, HA, HJ2, HI0, HK, HB⟩ := hcut
  cases kq with
  | zero => exact absurd HA.out (by simp [spec_l20Rd_pick.j0])
  | succ kj2 =>
   have H := HA.out; clear HA
   simp only [spec_l20Rd_pick.j0] at H
   by_cases c7 : a5 = true
   ·
    subst c7
    rw [if_pos rfl] at H
    simp only [Option.some.injEq, Prod.mk.injEq] at H
    obtain ⟨rfl, rfl⟩ := H
    go_wp2
    repeat (go_quiet (fail); try go_wp2)
    go_ret
    exact ⟨by first | rfl | (simp [*, errW_none, errW_some] <;> rfl), by repeat (with_reducible first | exact HI0.out | apply IsS77.alloc | apply IsS77.drewN | apply IsS77.drew | apply IsS77.set_1), by repeat (with_reducible first | exact HB.out | apply below_alloc | apply pw_below_drewN | apply below_drew1 | refine below_set ?_ (IsS77.ge HI0.out)), by repeat (with_reducible first | exact HK.out | apply KeepBut.set_ | apply keep_drewN | apply keep_drew | apply keep_alloc)⟩
   replace c7 := Bool.eq_false_iff.mpr c7
   subst c7
   rw [if_neg (show ¬ (false = true) by decide)] at H
   by_cases c8 : (wrap64 ((wrap64 (s0_1 + 1)) - 1)) < (s0_0.length : Int)
   ·
    rw [if_pos c8] at H
    have b6 : decide ((wrap64 ((wrap64 (s0_1 + 1)) - 1)) < (s0_0.length : Int)) = true := decide_eq_true c8; clear c8; obtain ⟨ji9, hji9⟩ : ∃ j_ : Int, (wrap64 ((wrap64 (s0_1 + 1)) - 1)) = j_ := ⟨_, rfl⟩
    replace H : (if 0 ≤ (ji9) then (if a1 = 0 then (none) else (some (Int.tmod (wrap64 (rd s0_0 (ji9))) a1, (wrap64 (s0_1 + 1))))) else (none)) = some (r1, r2) := by first | (rw [hji9] at H; exact H) | (simp only [hji9] at H ⊢; exact H)
    (try rw [hji9] at b6)
    have hji9w : (IntKind.i64.wrap ((wrap64 (s0_1 + 1)) - 1)) = ji9 := (i64_w _).trans hji9
    by_cases c10 : 0 ≤ (ji9)
    ·
     rw [if_pos c10] at H
     replace c10 := decide_eq_true c10
     by_cases c11 : a1 = 0
     ·
      rw [if_pos c11] at H
      exact absurd H (by simp)
     rw [if_neg c11] at H
     have d8 := beq_eq_false_iff_ne.mpr c11; have d9 := bne_iff_ne.mpr c11
     simp only [Option.some.injEq, Prod.mk.injEq] at H
     obtain ⟨rfl, rfl⟩ := H; obtain ⟨b7, b8, HGz12, hgz12, HSz12_0⟩ := HI0.out; have b9 := cellS77_0 HGz12; have c0 := cellS77_1 HGz12; have c1 := blk_frozen HGz12 1; clear HGz12 hgz12; have p101 : 0 ≤ ((ji9) : Int) := of_decide_eq_true (by assumption); have q101 : (ji9) < (s0_0.length : Int) := of_decide_eq_true (by assumption); obtain ⟨ad101, d5, a6⟩ := Kd.at_int HSz12_0 (ji9) p101 q101
     cases d5
     replace a6 := pw_cell_below HB.out a6; replace p101 := eq_true p101; replace q101 := eq_true q101
     go_wp2
     repeat (go_quiet (fail); try go_wp2)
     go_ret
     exact ⟨by first | rfl | (simp [errW_none, errW_some] <;> rfl) | (simp only [← hji9]; first | rfl | (simp [errW_none, errW_some] <;> rfl)) | (simp [*, errW_none, errW_some] <;> rfl), by repeat (with_reducible first | exact HI0.out | apply IsS77.alloc | apply IsS77.drewN | apply IsS77.drew | apply IsS77.set_1), by repeat (with_reducible first | exact HB.out | apply below_alloc | apply pw_below_drewN | apply below_drew1 | refine below_set ?_ (IsS77.ge HI0.out)), by repeat (with_reducible first | exact HK.out | apply KeepBut.set_ | apply keep_drewN | apply keep_drew | apply keep_alloc)⟩
    rw [if_neg c10] at H
    exact absurd H (by simp)
   rw [if_neg c8] at H
   have b6 : decide ((wrap64 ((wrap64 (s0_1 + 1)) - 1)) < (s0_0.length : Int)) = false := decide_eq_false c8; clear c8
   by_cases c13 : (s0_0.length : Int) = 0
   ·
    rw [if_pos c13] at H
    exact absurd H (by simp)
   rw [if_neg c13] at H
   have e0 := beq_eq_false_iff_ne.mpr c13; have e1 := bne_iff_ne.mpr c13; have e2 : ¬ (s0_0 = []) := fun h_ => c13 (by rw [h_]; rfl); obtain ⟨ji14, hji14⟩ : ∃ j_ : Int, (Int.tmod (wrap64 ((wrap64 (s0_1 + 1)) - 1)) (s0_0.length : Int)) = j_ := ⟨_, rfl⟩
   replace H : (if 0 ≤ (ji14) then (if (ji14) < (s0_0.length : Int) then (if 0 ≤ (Int.tmod (wrap64 ((wrap64 ((wrap64 ((wrap64 (s0_1 + 1)) - 1)) * 7)) + 3)) (s0_0.length : Int)) then (if (Int.tmod (wrap64 ((wrap64 ((wrap64 ((wrap64 (s0_1 + 1)) - 1)) * 7)) + 3)) (s0_0.length : Int)) < (s0_0.length : Int) then (if a1 = 0 then (none) else (some (Int.tmod (Go.bits .xor .i64 (wrap64 ((wrap64 ((wrap64 ((wrap64 ((wrap64 (rd s0_0 (ji14))) * 131)) + (wrap64 ((wrap64 (rd s0_0 (Int.tmod (wrap64 ((wrap64 ((wrap64 ((wrap64 (s0_1 + 1)) - 1)) * 7)) + 3)) (s0_0.length : Int)))) * 1117)))) + (wrap64 ((wrap64 ((wrap64 (s0_1 + 1)) - 1)) * 29)))) + (wrap64 ((wrap64 (Int.tdiv (wrap64 ((wrap64 (s0_1 + 1)) - 1)) (s0_0.length : Int))) * 53)))) (wrap64 (Int.tdiv (wrap64 ((wrap64 ((wrap64 ((wrap64 ((wrap64 (rd s0_0 (ji14))) * 131)) + (wrap64 ((wrap64 (rd s0_0 (Int.tmod (wrap64 ((wrap64 ((wrap64 ((wrap64 (s0_1 + 1)) - 1)) * 7)) + 3)) (s0_0.length : Int)))) * 1117)))) + (wrap64 ((wrap64 ((wrap64 (s0_1 + 1)) - 1)) * 29)))) + (wrap64 ((wrap64 (Int.tdiv (wrap64 ((wrap64 (s0_1 + 1)) - 1)) (s0_0.length : Int))) * 53)))) 64))) a1, (wrap64 (s0_1 + 1))))) else (none)) else (none)) else (none)) else (none)) = some (r1, r2) := by first | (rw [hji14] at H; exact H) | (simp only [hji14] at H ⊢; exact H)
   by_cases c15 : 0 ≤ (ji14)
   rotate_left
   ·
    rw [if_neg c15] at H
    exact absurd H (by simp)
   rw [if_pos c15] at H
   replace c15 := decide_eq_true c15
   by_cases c16 : (ji14) < (s0_0.length : Int)
   rotate_left
   ·
    rw [if_neg c16] at H
    exact absurd H (by simp)
   rw [if_pos c16] at H
   replace c16 := decide_eq_true c16; obtain ⟨ji17, hji17⟩ : ∃ j_ : Int, (Int.tmod (wrap64 ((wrap64 ((wrap64 ((wrap64 (s0_1 + 1)) - 1)) * 7)) + 3)) (s0_0.length : Int)) = j_ := ⟨_, rfl⟩
   replace H : (if 0 ≤ (ji17) then (if (ji17) < (s0_0.length : Int) then (if a1 = 0 then (none) else (some (Int.tmod (Go.bits .xor .i64 (wrap64 ((wrap64 ((wrap64 ((wrap64 ((wrap64 (rd s0_0 (ji14))) * 131)) + (wrap64 ((wrap64 (rd s0_0 (ji17))) * 1117)))) + (wrap64 ((wrap64 ((wrap64 (s0_1 + 1)) - 1)) * 29)))) + (wrap64 ((wrap64 (Int.tdiv (wrap64 ((wrap64 (s0_1 + 1)) - 1)) (s0_0.length : Int))) * 53)))) (wrap64 (Int.tdiv (wrap64 ((wrap64 ((wrap64 ((wrap64 ((wrap64 (rd s0_0 (ji14))) * 131)) + (wrap64 ((wrap64 (rd s0_0 (ji17))) * 1117)))) + (wrap64 ((wrap64 ((wrap64 (s0_1 + 1)) - 1)) * 29)))) + (wrap64 ((wrap64 (Int.tdiv (wrap64 ((wrap64 (s0_1 + 1)) - 1)) (s0_0.length : Int))) * 53)))) 64))) a1, (wrap64 (s0_1 + 1))))) else (none)) else (none)) = some (r1, r2) := by first | (rw [hji17] at H; exact H) | (simp only [hji17] at H ⊢; exact H)
   by_cases c18 : 0 ≤ (ji17)
   ·
    rw [if_pos c18] at H
    replace c18 := decide_eq_true c18
    by_cases c19 : (ji17) < (s0_0.length : Int)
    ·
     rw [if_pos c19] at H
     replace c19 := decide_eq_true c19
     by_cases c20 : a1 = 0
     ·
      rw [if_pos c20] at H
      exact absurd H (by simp)
     rw [if_neg c20] at H
     have e3 := beq_eq_false_iff_ne.mpr c20; have e4 := bne_iff_ne.mpr c20
     simp only [Option.some.injEq, Prod.mk.injEq] at H
     obtain ⟨rfl, rfl⟩ := H; obtain ⟨c3, c4, HGz21, hgz21, HSz21_0⟩ := HI0.out; have c6 := cellS77_0 HGz21; have c9 := cellS77_1 HGz21; have d0 := blk_frozen HGz21 1; clear HGz21 hgz21; have p102 : 0 ≤ ((ji14) : Int) := of_decide_eq_true (by assumption); have q102 : (ji14) < (s0_0.length : Int) := of_decide_eq_true (by assumption); obtain ⟨ad102, d6, a7⟩ := Kd.at_int HSz21_0 (ji14) p102 q102
     cases d6
     replace a7 := pw_cell_below HB.out a7; replace p102 := eq_true p102; replace q102 := eq_true q102; have p103 : 0 ≤ ((ji17) : Int) := of_decide_eq_true (by assumption); have q103 : (ji17) < (s0_0.length : Int) := of_decide_eq_true (by assumption); obtain ⟨ad103, d7, a8⟩ := Kd.at_int HSz21_0 (ji17) p103 q103; obtain rfl : ad102 = ad103 := (by injection d7); replace a8 := pw_cell_below HB.out a8; replace p103 := eq_true p103; replace q103 := eq_true q103
     go_wp2
     repeat (go_quiet (fail); try go_wp2)
     go_ret
     exact ⟨by first | rfl | (simp [errW_none, errW_some] <;> rfl) | (simp only [← hji14, ← hji17]; first | rfl | (simp [errW_none, errW_some] <;> rfl)) | (simp [*, errW_none, errW_some] <;> rfl), by repeat (with_reducible first | exact HI0.out | apply IsS77.alloc | apply IsS77.drewN | apply IsS77.drew | apply IsS77.set_1), by repeat (with_reducible first | exact HB.out | apply below_alloc | apply pw_below_drewN | apply below_drew1 | refine below_set ?_ (IsS77.ge HI0.out)), by repeat (with_reducible first | exact HK.out | apply KeepBut.set_ | apply keep_drewN | apply keep_drew | apply keep_alloc)⟩
    rw [if_neg c19] at H
    exact absurd H (by simp)
   rw [if_neg c18] at H
   exact absurd H (by simp)
end
section
def spec_l20Rd_odd.f (k : Nat) (s0_0 : List Int) (s0_1 : Int) (a1 : Int) : Option (Bool × Int) := if a1 > 0 then ((spec_l20Rd_pick.f k s0_0 s0_1 a1).bind fun bt101 => (some ((bt101.1 == (wrap64 (a1 - 1))), bt101.2))) else (some (false, s0_1))
set_option maxHeartbeats 8000000 in
set_option maxRecDepth 100000 in
theorem spec_l20Rd_odd.calls (k : Nat) (g : Nat) (s0_0 : List Int) (s0_1 : Int) (a1 : Int) (r1 : Bool) (r2 : Int) (w0 w : World) (hI : IsS77 w0 w g s0_0 s0_1) (hB : Below w0.heap.size w0 w) (h : spec_l20Rd_odd.f k s0_0 s0_1 a1 = some (r1, r2)) :
    Calls Tryz.prog 43 #[.pointer (some ⟨g, 0, none⟩), .int .i64 a1] w fun e w' => e = .returned (.bool r1) ∧ IsS77 w0 w' g s0_0 r2 ∧ Below w0.heap.size w0 w' ∧ KeepBut w w' g none := by
  have HI0 := Aside0.mk hI; have HK := Aside0.mk (KeepBut.refl w g none); have HL := Aside0.mk hB.size; clear hI; have HW0 := Aside0.mk hB.size; have HB := Aside0.mk hB; clear hB; have H : (if a1 > 0 then ((spec_l20Rd_pick.f k s0_0 s0_1 a1).bind fun bt101 => (some ((bt101.1 == (wrap64 (a1 - 1))), bt101.2))) else (some (false, s0_1))) = some (r1, r2) := h; clear h
  by_cases c3 : a1 > 0
  · rw [if_pos c3] at H
    have c3b0 : decide (0 < a1) = true := decide_eq_true c3; clear c3; obtain ⟨⟨t101, t102⟩, A4, H⟩ := bindA H; (try dsimp only at H)
    simp only [Option.some.injEq, Prod.mk.injEq] at H
    obtain ⟨rfl, rfl⟩ := H
    go_enter Tryz.func43, Tryz.ntmps43
    go_wp2_with (first | (go_at_call 27; (with_reducible refine (spec_l20Rd_pick.calls k g s0_0 s0_1 a1 t101 t102 w0 _ ?side1 ?side2 A4.out).mono ?_); (case side1 => repeat (with_reducible first | exact HI0.out | apply IsS77.alloc | apply IsS77.drewN | apply IsS77.drew | apply IsS77.set_1)); (case side2 => repeat (with_reducible first | exact HB.out | apply below_alloc | apply pw_below_drewN | apply below_drew1 | refine below_set ?_ (IsS77.ge HI0.out))); rintro e w5 ⟨rfl, hi, hb, hk⟩; replace HK := Aside0.mk (KeepBut.trans (by repeat (with_reducible first | exact HK.out | apply KeepBut.set_ | apply keep_drewN | apply keep_drew | apply keep_alloc)) hk (.inl rfl)); replace HB := Aside0.mk (hb); replace HI0 := Aside0.mk (hi); (try clear hb hk hi)))
    go_ret
    exact ⟨by first | rfl | (simp [*, errW_none, errW_some] <;> rfl), by repeat (with_reducible first | exact HI0.out | apply IsS77.alloc | apply IsS77.drewN | apply IsS77.drew | apply IsS77.set_1), by repeat (with_reducible first | exact HB.out | apply below_alloc | apply pw_below_drewN | apply below_drew1 | refine below_set ?_ (IsS77.ge HI0.out)), by repeat (with_reducible first | exact HK.out | apply KeepBut.set_ | apply keep_drewN | apply keep_drew | apply keep_alloc)⟩
  · rw [if_neg c3] at H
    have c3b0 : decide (0 < a1) = false := decide_eq_false c3; clear c3
    simp only [Option.some.injEq, Prod.mk.injEq] at H
    obtain ⟨rfl, rfl⟩ := H
    go_enter Tryz.func43, Tryz.ntmps43
    go_wp2
    go_ret
    exact ⟨by first | rfl | (simp [*, errW_none, errW_some] <;> rfl), by repeat (with_reducible first | exact HI0.out | apply IsS77.alloc | apply IsS77.drewN | apply IsS77.drew | apply IsS77.set_1), by repeat (with_reducible first | exact HB.out | apply below_alloc | apply pw_below_drewN | apply below_drew1 | refine below_set ?_ (IsS77.ge HI0.out)), by repeat (with_reducible first | exact HK.out | apply KeepBut.set_ | apply keep_drewN | apply keep_drew | apply keep_alloc)⟩
end
section
open Go.Proofs.YtmplnpjdbfedbaaGreatDoorW.PrintWords.Aside0 renaming mk → yaa
open Go.Proofs.YtmplnpjdbfedbaaGreatDoor.X.IsS77 renaming far → yab, alloc → yah, drewN → yai, set_1 → yaj, drew → yam, ge → yas
open Go.Proofs.YtmplnpjdbfedbaaGreatDoorW.PrintWords renaming below_set → yac, pw_below_drewN → yad, keep_far → yaf, keep_drewN → yak, keep_alloc → yal, below_alloc → yan, below_drew1 → yao, keep_drew → yaq, blk_put → yar
open Go.Proofs.YtmplnpjdbfedbaaGreatDoorW.PrintWords.KeepBut renaming set_ → yae, blk → yag, trans → yap
def spec_l20Op.j0 : Nat → Int → List Int → Int → Int → Int → Int → Int → Int → Option (Int × Int × Int × Int × Int × Int)
 | 0, _, _, _, _, _, _, _, _ => none
 | k + 1, x1, x1000, x1001, x105000, x105001, x105002, x105003, x105004 => (spec_l20Rd_odd.f k x1000 x1001 x1).bind fun bt123 => (if bt123.1 = true then ((spec_l20Rd_pick.f k x1000 bt123.2 4).bind fun bt125 => (if bt125.1 = 0 then ((some (([0, 9] : List Int) : List Int)).bind fun y127 => ((spec_l20Rd_pick.f k x1000 bt125.2 2).bind fun bt130 => (if 0 ≤ bt130.1 then (if bt130.1 < (y127.length : Int) then (some (rd y127 bt130.1, x105001, x105002, x105003, x105004, bt130.2)) else (none)) else (none)))) else (if bt125.1 = 1 then ((some (([(-1), 256] : List Int) : List Int)).bind fun y133 => ((spec_l20Rd_pick.f k x1000 bt125.2 2).bind fun bt136 => (if 0 ≤ bt136.1 then (if bt136.1 < (y133.length : Int) then (some (x105000, rd y133 bt136.1, x105002, x105003, x105004, bt136.2)) else (none)) else (none)))) else (if bt125.1 = 2 then ((some (([(-1), 256] : List Int) : List Int)).bind fun y139 => ((spec_l20Rd_pick.f k x1000 bt125.2 2).bind fun bt142 => (if 0 ≤ bt142.1 then (if bt142.1 < (y139.length : Int) then (some (x105000, x105001, x105002, rd y139 bt142.1, x105004, bt142.2)) else (none)) else (none)))) else ((some (([1, 7] : List Int) : List Int)).bind fun y145 => ((spec_l20Rd_pick.f k x1000 bt125.2 2).bind fun bt148 => (if 0 ≤ bt148.1 then (if bt148.1 < (y145.length : Int) then (some (x105000, x105001, x105002, x105003, rd y145 bt148.1, bt148.2)) else (none)) else (none)))))))) else (some (x105000, x105001, x105002, x105003, x105004, bt123.2)))
def spec_l20Op.f (k : Nat) (s0_0 : List Int) (s0_1 : Int) (a1 : Int) : Option (Int × Int × Int × Int × Int × Int) := (spec_l20Rd_pick.f k s0_0 s0_1 8).bind fun bt102 => (if (wrap64 (1 + bt102.1)) = 1 then ((spec_l20Rd_pick.f k s0_0 bt102.2 3).bind fun bt105 => ((spec_l20Rd_pick.f k s0_0 bt105.2 3).bind fun bt107 => ((spec_l20Rd_pick.f k s0_0 bt107.2 4).bind fun bt109 => ((spec_l20Rd_pick.f k s0_0 bt109.2 4).bind fun bt111 => (spec_l20Op.j0 k a1 s0_0 bt111.2 1 bt105.1 bt107.1 (wrap64 (1 + bt109.1)) (wrap64 (1 + bt111.1))))))) else (if (wrap64 (1 + bt102.1)) = 7 then ((spec_l20Rd_pick.f k s0_0 bt102.2 6).bind fun bt113 => ((spec_l20Rd_pick.f k s0_0 bt113.2 6).bind fun bt115 => (spec_l20Op.j0 k a1 s0_0 bt115.2 7 (wrap64 (1 + bt113.1)) (wrap64 (1 + bt115.1)) 0 0))) else (if (wrap64 (1 + bt102.1)) = 8 then ((spec_l20Rd_pick.f k s0_0 bt102.2 256).bind fun bt117 => ((spec_l20Rd_pick.f k s0_0 bt117.2 256).bind fun bt119 => ((spec_l20Rd_pick.f k s0_0 bt119.2 256).bind fun bt121 => (spec_l20Op.j0 k a1 s0_0 bt121.2 8 bt117.1 bt119.1 bt121.1 0)))) else (spec_l20Op.j0 k a1 s0_0 bt102.2 (wrap64 (1 + bt102.1)) 0 0 0 0))))
set_option maxHeartbeats 8000000 in
set_option maxRecDepth 100000 in
theorem spec_l20Op.calls (k : Nat) (g : Nat) (s0_0 : List Int) (s0_1 : Int) (a1 : Int) (r1 : Int) (r2 : Int) (r3 : Int) (r4 : Int) (r5 : Int) (r6 : Int) (w0 w : World) (hI : IsS77 w0 w g s0_0 s0_1) (hB : Below w0.heap.size w0 w) (h : spec_l20Op.f k s0_0 s0_1 a1 = some (r1, r2, r3, r4, r5, r6)) :
  Calls Tryz.prog 44 #[.pointer (some ⟨g, 0, none⟩), .int .i64 a1] w fun e w' => e = .returned (.agg #[.int .i64 r1, .int .i64 r2, .int .i64 r3, .int .i64 r4, .int .i64 r5]) ∧ IsS77 w0 w' g s0_0 r6 ∧ Below w0.heap.size w0 w' ∧ KeepBut w w' g none := by
 have hu65 := Tryz.underlying65; have HI0 := yaa hI; have HK := yaa (KeepBut.refl w g none); have HL := yaa hB.size; clear hI; have HW0 := yaa hB.size; have HB := yaa hB; clear hB; have H : ((spec_l20Rd_pick.f k s0_0 s0_1 8).bind fun d0 => (if (wrap64 (1 + d0.1)) = 1 then ((spec_l20Rd_pick.f k s0_0 d0.2 3).bind fun k0 => ((spec_l20Rd_pick.f k s0_0 k0.2 3).bind fun k1 => ((spec_l20Rd_pick.f k s0_0 k1.2 4).bind fun k2 => ((spec_l20Rd_pick.f k s0_0 k2.2 4).bind fun k3 => (spec_l20Op.j0 k a1 s0_0 k3.2 1 k0.1 k1.1 (wrap64 (1 + k2.1)) (wrap64 (1 + k3.1))))))) else (if (wrap64 (1 + d0.1)) = 7 then ((spec_l20Rd_pick.f k s0_0 d0.2 6).bind fun k4 => ((spec_l20Rd_pick.f k s0_0 k4.2 6).bind fun k5 => (spec_l20Op.j0 k a1 s0_0 k5.2 7 (wrap64 (1 + k4.1)) (wrap64 (1 + k5.1)) 0 0))) else (if (wrap64 (1 + d0.1)) = 8 then ((spec_l20Rd_pick.f k s0_0 d0.2 256).bind fun k6 => ((spec_l20Rd_pick.f k s0_0 k6.2 256).bind fun k7 => ((spec_l20Rd_pick.f k s0_0 k7.2 256).bind fun k8 => (spec_l20Op.j0 k a1 s0_0 k8.2 8 k6.1 k7.1 k8.1 0)))) else (spec_l20Op.j0 k a1 s0_0 d0.2 (wrap64 (1 + d0.1)) 0 0 0 0))))) = some (r1, r2, r3, r4, r5, r6) := h; clear h; obtain ⟨⟨b8, e7⟩, A3, H⟩ := bindA H; (try dsimp only at H); have HC4 := yaa H; clear H
 go_enter Tryz.func44, Tryz.ntmps44
 go_upto_block 0 with (first | ((with_reducible refine gd_ 4 rfl ?_); refine bx_ 4 rfl #[.int .i64 0, .int .i64 0, .int .i64 0, .int .i64 0, .int .i64 0] 65 ?_; intro b9 hg w5 hbox hb; replace HB := yaa (below_step (by repeat (with_reducible first | exact HB.out | apply yan | apply yad | apply yao | refine yac ?_ (yas HI0.out))) hb); have a4 := yaa (hbox); have b3 := yaa ((by rw [hg]; exact (keep_size (w := w) (g := g) (row := none) (by repeat (with_reducible first | exact HK.out | apply yae | apply yak | apply yaq | apply yal))) : w.heap.size ≤ b9)); have B9 := yaa ((Nat.le_trans HW0.out (by rw [hg]; exact (keep_size (w := w) (g := g) (row := none) (by repeat (with_reducible first | exact HK.out | apply yae | apply yak | apply yaq | apply yal))) : w.heap.size ≤ b9) : w0.heap.size ≤ b9)); replace HK := yaa (yap (by repeat (with_reducible first | exact HK.out | apply yae | apply yak | apply yaq | apply yal)) (KeepBut.of_below hb g none) (.inl rfl)); have a5 := yaa ((by rw [hg]; exact Nat.ne_of_lt (IsS77.lt (show IsS77 w0 _ g s0_0 s0_1 from by repeat (with_reducible first | exact HI0.out | apply yah | apply yai | apply yam | apply yaj))) : g ≠ b9)); replace HI0 := yaa (IsS77.below (by repeat (with_reducible first | exact HI0.out | apply yah | apply yai | apply yam | apply yaj)) hb); have b2 := yaa a5.out.symm; clear hb hbox hg) | ((with_reducible refine gc_ 27 rfl ?_); refine gl_ (some 7) rfl Tryz.func27 #[.pointer (some ⟨g, 0, none⟩), .int .i64 8] ?_; (with_reducible refine (spec_l20Rd_pick.calls k g s0_0 s0_1 8 b8 e7 w0 _ ?side1 ?side2 A3.out).mono ?_); (case side1 => repeat (with_reducible first | exact HI0.out | apply yah | apply yai | apply yam | apply yaj | refine yab ?_ a5.out _)); (case side2 => repeat (with_reducible first | exact HB.out | apply yan | apply yad | apply yao | refine yac ?_ (Aside0.out ‹_›) | refine yac ?_ (yas HI0.out))); rintro e w6 ⟨rfl, hi, hb, hk⟩; refine ⟨_, rfl, ?_⟩; replace a4 := yaa (yag hk (upB a4.out) b2.out (by simp)); replace HK := yaa (yap (by repeat (with_reducible first | exact HK.out | apply yae | apply yak | apply yaq | apply yal | refine yaf ?_ b3.out _)) hk (.inl rfl)); replace HB := yaa (hb); replace HI0 := yaa (hi); (try clear hb hk hi)) | ((with_reducible refine gd_ 5 rfl ?_); refine bx_ 5 rfl #[.int .i64 0, .int .i64 0, .int .i64 0, .int .i64 0, .int .i64 0] 65 ?_; intro c6 hg w7 hbox hb; replace HB := yaa (below_step (by repeat (with_reducible first | exact HB.out | apply yan | apply yad | apply yao | refine yac ?_ (Aside0.out ‹_›) | refine yac ?_ (yas HI0.out))) hb); have a6 := yaa (hbox); have b4 := yaa ((by rw [hg]; exact (keep_size (w := w) (g := g) (row := none) (by repeat (with_reducible first | exact HK.out | apply yae | apply yak | apply yaq | apply yal | refine yaf ?_ b3.out _))) : w.heap.size ≤ c6)); have C0 := yaa ((Nat.le_trans HW0.out (by rw [hg]; exact (keep_size (w := w) (g := g) (row := none) (by repeat (with_reducible first | exact HK.out | apply yae | apply yak | apply yaq | apply yal | refine yaf ?_ b3.out _))) : w.heap.size ≤ c6) : w0.heap.size ≤ c6)); replace HK := yaa (yap (by repeat (with_reducible first | exact HK.out | apply yae | apply yak | apply yaq | apply yal | refine yaf ?_ b3.out _)) (KeepBut.of_below hb g none) (.inl rfl)); have b1 := yaa ((by rw [hg]; exact Nat.ne_of_lt (blk_lt (upB a4.out)) : b9 ≠ c6)); replace a4 := yaa (blk_below (upB a4.out) hb); have b7 := yaa b1.out.symm; have a3 := yaa ((by rw [hg]; exact Nat.ne_of_lt (IsS77.lt (show IsS77 w0 _ g s0_0 e7 from by repeat (with_reducible first | exact HI0.out | apply yah | apply yai | apply yam | apply yaj | refine yab ?_ a5.out _))) : g ≠ c6)); replace HI0 := yaa (IsS77.below (by repeat (with_reducible first | exact HI0.out | apply yah | apply yai | apply yam | apply yaj | refine yab ?_ a5.out _)) hb); have b0 := yaa a3.out.symm; clear hb hbox hg; have F5 := b7.out; have F6 := b1.out; have F7 := b0.out; have F8 := a3.out; obtain ⟨f5, f6, f7, f8, f9⟩ := cc5_ a6.out; obtain ⟨g0, g1, g2, g3⟩ := cf4_ a6.out; have g4 := blk_frozen a6.out 4))
 (try simp only [Act.put, List.setIfInBounds_toArray, List.set_cons_zero, List.set_cons_succ])
 go_cut [] (fun wc => ∃ (kq : Nat) (c0 : Int) (a7 : Int) (a8 : Int) (a9 : Int) (b5 : Int) (b6 : Int), Aside0 (spec_l20Op.j0 kq a1 s0_0 c0 a7 a8 a9 b5 b6 = some (r1, r2, r3, r4, r5, r6)) ∧ Aside0 (kq ≤ k) ∧ Aside0 (wc.heap[b9]? = some (.cells #[.int .i64 0, .int .i64 0, .int .i64 0, .int .i64 0, .int .i64 0] 65 (0, 0))) ∧ Aside0 (wc.heap[c6]? = some (.cells #[.int .i64 a7, .int .i64 a8, .int .i64 a9, .int .i64 b5, .int .i64 b6] 65 (0, 0))) ∧ Aside0 (IsS77 w0 wc g s0_0 c0) ∧ Aside0 (KeepBut w wc g none) ∧ Aside0 (Below w0.heap.size w0 wc))
 case first =>
  have H := HC4.out; clear HC4
  by_cases c11 : (wrap64 (1 + b8)) = 1
  ·
   rw [if_pos c11] at H
   have d3 := beq_iff_eq.mpr c11; have k9 := bne_eq_false_iff_eq.mpr c11; clear c11
   (first | rw [d3] | (simp only [i64_w, i32_w]; rw [d3]) | skip)
   obtain ⟨⟨e8, l6⟩, A12, H⟩ := bindA H; (try dsimp only at H); obtain ⟨⟨g5, l7⟩, A13, H⟩ := bindA H; (try dsimp only at H); obtain ⟨⟨l4, l8⟩, A14, H⟩ := bindA H; (try dsimp only at H); obtain ⟨⟨l9, m0⟩, A15, H⟩ := bindA H; (try dsimp only at H); have H' := yaa H; clear H
   go_wp2_with (first | ((with_reducible refine gc_ 27 rfl ?_); refine gl_ (some 15) rfl Tryz.func27 #[.pointer (some ⟨g, 0, none⟩), .int .i64 3] ?_; (with_reducible refine (spec_l20Rd_pick.calls k g s0_0 e7 3 e8 l6 w0 _ ?side1 ?side2 A12.out).mono ?_); (case side1 => repeat (with_reducible first | exact HI0.out | apply yah | apply yai | apply yam | apply yaj | refine yab ?_ a5.out _ | refine yab ?_ a3.out _)); (case side2 => repeat (with_reducible first | exact HB.out | apply yan | apply yad | apply yao | refine yac ?_ (Aside0.out ‹_›) | refine yac ?_ (yas HI0.out))); rintro e w16 ⟨rfl, hi, hb, hk⟩; refine ⟨_, rfl, ?_⟩; replace a4 := yaa (yag hk (g' := b9) (o := .cells #[.int .i64 0, .int .i64 0, .int .i64 0, .int .i64 0, .int .i64 0] 65 (0, 0)) (by repeat (with_reducible first | exact a4.out | refine oneB ?_ | refine blk_far ?_ b1.out _)) b2.out (by simp)); replace a6 := yaa (yag hk (g' := c6) (o := .cells #[.int .i64 (wrap64 (1 + b8)), .int .i64 0, .int .i64 0, .int .i64 0, .int .i64 0] 65 (0, 0)) (by (repeat refine oneB ?_); refine yar (cs := #[.int .i64 (wrap64 (1 + b8)), .int .i64 0, .int .i64 0, .int .i64 0, .int .i64 0]) ?_ 4 _ rfl; refine yar (cs := #[.int .i64 (wrap64 (1 + b8)), .int .i64 0, .int .i64 0, .int .i64 0, .int .i64 0]) ?_ 3 _ rfl; refine yar (cs := #[.int .i64 (wrap64 (1 + b8)), .int .i64 0, .int .i64 0, .int .i64 0, .int .i64 0]) ?_ 2 _ rfl; refine yar (cs := #[.int .i64 (wrap64 (1 + b8)), .int .i64 0, .int .i64 0, .int .i64 0, .int .i64 0]) ?_ 1 _ rfl; refine yar (cs := #[.int .i64 0, .int .i64 0, .int .i64 0, .int .i64 0, .int .i64 0]) ?_ 0 _ rfl; exact upB a6.out) b0.out (by simp)); replace HK := yaa (yap (by repeat (with_reducible first | exact HK.out | apply yae | apply yak | apply yaq | apply yal | refine yaf ?_ b3.out _ | refine yaf ?_ b4.out _)) hk (.inl rfl)); replace HB := yaa (hb); replace HI0 := yaa (hi); (try clear hb hk hi)) | ((with_reducible refine gc_ 27 rfl ?_); refine gl_ (some 17) rfl Tryz.func27 #[.pointer (some ⟨g, 0, none⟩), .int .i64 3] ?_; (with_reducible refine (spec_l20Rd_pick.calls k g s0_0 l6 3 g5 l7 w0 _ ?side1 ?side2 A13.out).mono ?_); (case side1 => repeat (with_reducible first | exact HI0.out | apply yah | apply yai | apply yam | apply yaj | refine yab ?_ a5.out _ | refine yab ?_ a3.out _)); (case side2 => repeat (with_reducible first | exact HB.out | apply yan | apply yad | apply yao | refine yac ?_ (Aside0.out ‹_›) | refine yac ?_ (yas HI0.out))); rintro e w17 ⟨rfl, hi, hb, hk⟩; refine ⟨_, rfl, ?_⟩; replace a4 := yaa (yag hk (upB a4.out) b2.out (by simp)); replace a6 := yaa (yag hk (upB a6.out) b0.out (by simp)); replace HK := yaa (yap (by repeat (with_reducible first | exact HK.out | apply yae | apply yak | apply yaq | apply yal | refine yaf ?_ b3.out _ | refine yaf ?_ b4.out _)) hk (.inl rfl)); replace HB := yaa (hb); replace HI0 := yaa (hi); (try clear hb hk hi)) | ((with_reducible refine gc_ 27 rfl ?_); refine gl_ (some 19) rfl Tryz.func27 #[.pointer (some ⟨g, 0, none⟩), .int .i64 4] ?_; (with_reducible refine (spec_l20Rd_pick.calls k g s0_0 l7 4 l4 l8 w0 _ ?side1 ?side2 A14.out).mono ?_); (case side1 => repeat (with_reducible first | exact HI0.out | apply yah | apply yai | apply yam | apply yaj | refine yab ?_ a5.out _ | refine yab ?_ a3.out _)); (case side2 => repeat (with_reducible first | exact HB.out | apply yan | apply yad | apply yao | refine yac ?_ (Aside0.out ‹_›) | refine yac ?_ (yas HI0.out))); rintro e w18 ⟨rfl, hi, hb, hk⟩; refine ⟨_, rfl, ?_⟩; replace a4 := yaa (yag hk (upB a4.out) b2.out (by simp)); replace a6 := yaa (yag hk (upB a6.out) b0.out (by simp)); replace HK := yaa (yap (by repeat (with_reducible first | exact HK.out | apply yae | apply yak | apply yaq | apply yal | refine yaf ?_ b3.out _ | refine yaf ?_ b4.out _)) hk (.inl rfl)); replace HB := yaa (hb); replace HI0 := yaa (hi); (try clear hb hk hi)) | ((with_reducible refine gc_ 27 rfl ?_); refine gl_ (some 22) rfl Tryz.func27 #[.pointer (some ⟨g, 0, none⟩), .int .i64 4] ?_; (with_reducible refine (spec_l20Rd_pick.calls k g s0_0 l8 4 l9 m0 w0 _ ?side1 ?side2 A15.out).mono ?_); (case side1 => repeat (with_reducible first | exact HI0.out | apply yah | apply yai | apply yam | apply yaj | refine yab ?_ a5.out _ | refine yab ?_ a3.out _)); (case side2 => repeat (with_reducible first | exact HB.out | apply yan | apply yad | apply yao | refine yac ?_ (Aside0.out ‹_›) | refine yac ?_ (yas HI0.out))); rintro e w19 ⟨rfl, hi, hb, hk⟩; refine ⟨_, rfl, ?_⟩; replace a4 := yaa (yag hk (upB a4.out) b2.out (by simp)); replace a6 := yaa (yag hk (upB a6.out) b0.out (by simp)); replace HK := yaa (yap (by repeat (with_reducible first | exact HK.out | apply yae | apply yak | apply yaq | apply yal | refine yaf ?_ b3.out _ | refine yaf ?_ b4.out _)) hk (.inl rfl)); replace HB := yaa (hb); replace HI0 := yaa (hi); (try clear hb hk hi); have C1 := b7.out; have C2 := b1.out; have C3 := b0.out; have C4 := a3.out; obtain ⟨g6, g7, g8, g9, h0⟩ := cc5_ a6.out; obtain ⟨h1, h2, h3, h4⟩ := cf4_ a6.out; have h5 := blk_frozen a6.out 4))
   go_meet
   case rel => exact ⟨_, (m0), (1), (e8), (g5), (wrap64 (1 + l4)), (wrap64 (1 + l9)), H', ⟨by first | omega | exact Nat.le_refl _⟩, ⟨by repeat (with_reducible first | exact a4.out | refine oneB ?_ | refine blk_far ?_ b1.out _)⟩, ⟨by (repeat refine oneB ?_); refine yar (cs := #[.int .i64 1, .int .i64 e8, .int .i64 g5, .int .i64 (wrap64 (1 + l4)), .int .i64 0]) ?_ 4 _ rfl; refine yar (cs := #[.int .i64 1, .int .i64 e8, .int .i64 g5, .int .i64 0, .int .i64 0]) ?_ 3 _ rfl; refine yar (cs := #[.int .i64 1, .int .i64 e8, .int .i64 0, .int .i64 0, .int .i64 0]) ?_ 2 _ rfl; refine yar (cs := #[.int .i64 1, .int .i64 0, .int .i64 0, .int .i64 0, .int .i64 0]) ?_ 1 _ rfl; refine yar (cs := #[.int .i64 (wrap64 (1 + b8)), .int .i64 0, .int .i64 0, .int .i64 0, .int .i64 0]) ?_ 0 _ rfl; exact upB a6.out⟩, ⟨by repeat (with_reducible first | exact HI0.out | apply yah | apply yai | apply yam | apply yaj | refine yab ?_ a5.out _ | refine yab ?_ a3.out _)⟩, ⟨by repeat (with_reducible first | exact HK.out | apply yae | apply yak | apply yaq | apply yal | refine yaf ?_ b3.out _ | refine yaf ?_ b4.out _)⟩, ⟨by repeat (with_reducible first | exact HB.out | apply yan | apply yad | apply yao | refine yac ?_ (Aside0.out ‹_›) | refine yac ?_ (yas HI0.out))⟩⟩
  rw [if_neg c11] at H
  have d3 := beq_eq_false_iff_ne.mpr c11; have k9 := bne_iff_ne.mpr c11
  (first | rw [d3] | (simp only [i64_w, i32_w]; rw [d3]) | skip)
  by_cases c23 : (wrap64 (1 + b8)) = 7
  ·
   rw [if_pos c23] at H
   have l0 := beq_iff_eq.mpr c23; have l1 := bne_eq_false_iff_eq.mpr c23; clear c23; obtain ⟨⟨e9, m1⟩, A24, H⟩ := bindA H; (try dsimp only at H); obtain ⟨⟨h6, m2⟩, A25, H⟩ := bindA H; (try dsimp only at H); have H' := yaa H; clear H
   go_wp2_with (first | ((with_reducible refine gc_ 27 rfl ?_); refine gl_ (some 28) rfl Tryz.func27 #[.pointer (some ⟨g, 0, none⟩), .int .i64 6] ?_; (with_reducible refine (spec_l20Rd_pick.calls k g s0_0 e7 6 e9 m1 w0 _ ?side1 ?side2 A24.out).mono ?_); (case side1 => repeat (with_reducible first | exact HI0.out | apply yah | apply yai | apply yam | apply yaj | refine yab ?_ a5.out _ | refine yab ?_ a3.out _)); (case side2 => repeat (with_reducible first | exact HB.out | apply yan | apply yad | apply yao | refine yac ?_ (Aside0.out ‹_›) | refine yac ?_ (yas HI0.out))); rintro e w26 ⟨rfl, hi, hb, hk⟩; refine ⟨_, rfl, ?_⟩; replace a4 := yaa (yag hk (g' := b9) (o := .cells #[.int .i64 0, .int .i64 0, .int .i64 0, .int .i64 0, .int .i64 0] 65 (0, 0)) (by repeat (with_reducible first | exact a4.out | refine oneB ?_ | refine blk_far ?_ b1.out _)) b2.out (by simp)); replace a6 := yaa (yag hk (g' := c6) (o := .cells #[.int .i64 (wrap64 (1 + b8)), .int .i64 0, .int .i64 0, .int .i64 0, .int .i64 0] 65 (0, 0)) (by (repeat refine oneB ?_); refine yar (cs := #[.int .i64 (wrap64 (1 + b8)), .int .i64 0, .int .i64 0, .int .i64 0, .int .i64 0]) ?_ 4 _ rfl; refine yar (cs := #[.int .i64 (wrap64 (1 + b8)), .int .i64 0, .int .i64 0, .int .i64 0, .int .i64 0]) ?_ 3 _ rfl; refine yar (cs := #[.int .i64 (wrap64 (1 + b8)), .int .i64 0, .int .i64 0, .int .i64 0, .int .i64 0]) ?_ 2 _ rfl; refine yar (cs := #[.int .i64 (wrap64 (1 + b8)), .int .i64 0, .int .i64 0, .int .i64 0, .int .i64 0]) ?_ 1 _ rfl; refine yar (cs := #[.int .i64 0, .int .i64 0, .int .i64 0, .int .i64 0, .int .i64 0]) ?_ 0 _ rfl; exact upB a6.out) b0.out (by simp)); replace HK := yaa (yap (by repeat (with_reducible first | exact HK.out | apply yae | apply yak | apply yaq | apply yal | refine yaf ?_ b3.out _ | refine yaf ?_ b4.out _)) hk (.inl rfl)); replace HB := yaa (hb); replace HI0 := yaa (hi); (try clear hb hk hi)) | ((with_reducible refine gc_ 27 rfl ?_); refine gl_ (some 31) rfl Tryz.func27 #[.pointer (some ⟨g, 0, none⟩), .int .i64 6] ?_; (with_reducible refine (spec_l20Rd_pick.calls k g s0_0 m1 6 h6 m2 w0 _ ?side1 ?side2 A25.out).mono ?_); (case side1 => repeat (with_reducible first | exact HI0.out | apply yah | apply yai | apply yam | apply yaj | refine yab ?_ a5.out _ | refine yab ?_ a3.out _)); (case side2 => repeat (with_reducible first | exact HB.out | apply yan | apply yad | apply yao | refine yac ?_ (Aside0.out ‹_›) | refine yac ?_ (yas HI0.out))); rintro e w27 ⟨rfl, hi, hb, hk⟩; refine ⟨_, rfl, ?_⟩; replace a4 := yaa (yag hk (upB a4.out) b2.out (by simp)); replace a6 := yaa (yag hk (upB a6.out) b0.out (by simp)); replace HK := yaa (yap (by repeat (with_reducible first | exact HK.out | apply yae | apply yak | apply yaq | apply yal | refine yaf ?_ b3.out _ | refine yaf ?_ b4.out _)) hk (.inl rfl)); replace HB := yaa (hb); replace HI0 := yaa (hi); (try clear hb hk hi); have C5 := b7.out; have C6 := b1.out; have C7 := b0.out; have C8 := a3.out; obtain ⟨h7, h8, h9, i0, i1⟩ := cc5_ a6.out; obtain ⟨i2, i3, i4, i5⟩ := cf4_ a6.out; have i6 := blk_frozen a6.out 4))
   go_meet
   case rel => exact ⟨_, (m2), (7), (wrap64 (1 + e9)), (wrap64 (1 + h6)), (0), (0), H', ⟨by first | omega | exact Nat.le_refl _⟩, ⟨by repeat (with_reducible first | exact a4.out | refine oneB ?_ | refine blk_far ?_ b1.out _)⟩, ⟨by (repeat refine oneB ?_); refine yar (cs := #[.int .i64 7, .int .i64 (wrap64 (1 + e9)), .int .i64 (wrap64 (1 + h6)), .int .i64 0, .int .i64 0]) ?_ 4 _ rfl; refine yar (cs := #[.int .i64 7, .int .i64 (wrap64 (1 + e9)), .int .i64 (wrap64 (1 + h6)), .int .i64 0, .int .i64 0]) ?_ 3 _ rfl; refine yar (cs := #[.int .i64 7, .int .i64 (wrap64 (1 + e9)), .int .i64 0, .int .i64 0, .int .i64 0]) ?_ 2 _ rfl; refine yar (cs := #[.int .i64 7, .int .i64 0, .int .i64 0, .int .i64 0, .int .i64 0]) ?_ 1 _ rfl; refine yar (cs := #[.int .i64 (wrap64 (1 + b8)), .int .i64 0, .int .i64 0, .int .i64 0, .int .i64 0]) ?_ 0 _ rfl; exact upB a6.out⟩, ⟨by repeat (with_reducible first | exact HI0.out | apply yah | apply yai | apply yam | apply yaj | refine yab ?_ a5.out _ | refine yab ?_ a3.out _)⟩, ⟨by repeat (with_reducible first | exact HK.out | apply yae | apply yak | apply yaq | apply yal | refine yaf ?_ b3.out _ | refine yaf ?_ b4.out _)⟩, ⟨by repeat (with_reducible first | exact HB.out | apply yan | apply yad | apply yao | refine yac ?_ (Aside0.out ‹_›) | refine yac ?_ (yas HI0.out))⟩⟩
  rw [if_neg c23] at H
  have l0 := beq_eq_false_iff_ne.mpr c23; have l1 := bne_iff_ne.mpr c23
  by_cases c31 : (wrap64 (1 + b8)) = 8
  ·
   rw [if_pos c31] at H
   have l2 := beq_iff_eq.mpr c31; have l3 := bne_eq_false_iff_eq.mpr c31; clear c31; obtain ⟨⟨f0, m3⟩, A32, H⟩ := bindA H; (try dsimp only at H); obtain ⟨⟨i7, m4⟩, A33, H⟩ := bindA H; (try dsimp only at H); obtain ⟨⟨l5, m5⟩, A34, H⟩ := bindA H; (try dsimp only at H); have H' := yaa H; clear H
   go_wp2_with (first | ((with_reducible refine gc_ 27 rfl ?_); refine gl_ (some 37) rfl Tryz.func27 #[.pointer (some ⟨g, 0, none⟩), .int .i64 256] ?_; (with_reducible refine (spec_l20Rd_pick.calls k g s0_0 e7 256 f0 m3 w0 _ ?side1 ?side2 A32.out).mono ?_); (case side1 => repeat (with_reducible first | exact HI0.out | apply yah | apply yai | apply yam | apply yaj | refine yab ?_ a5.out _ | refine yab ?_ a3.out _)); (case side2 => repeat (with_reducible first | exact HB.out | apply yan | apply yad | apply yao | refine yac ?_ (Aside0.out ‹_›) | refine yac ?_ (yas HI0.out))); rintro e w35 ⟨rfl, hi, hb, hk⟩; refine ⟨_, rfl, ?_⟩; replace a4 := yaa (yag hk (g' := b9) (o := .cells #[.int .i64 0, .int .i64 0, .int .i64 0, .int .i64 0, .int .i64 0] 65 (0, 0)) (by repeat (with_reducible first | exact a4.out | refine oneB ?_ | refine blk_far ?_ b1.out _)) b2.out (by simp)); replace a6 := yaa (yag hk (g' := c6) (o := .cells #[.int .i64 (wrap64 (1 + b8)), .int .i64 0, .int .i64 0, .int .i64 0, .int .i64 0] 65 (0, 0)) (by (repeat refine oneB ?_); refine yar (cs := #[.int .i64 (wrap64 (1 + b8)), .int .i64 0, .int .i64 0, .int .i64 0, .int .i64 0]) ?_ 4 _ rfl; refine yar (cs := #[.int .i64 (wrap64 (1 + b8)), .int .i64 0, .int .i64 0, .int .i64 0, .int .i64 0]) ?_ 3 _ rfl; refine yar (cs := #[.int .i64 (wrap64 (1 + b8)), .int .i64 0, .int .i64 0, .int .i64 0, .int .i64 0]) ?_ 2 _ rfl; refine yar (cs := #[.int .i64 (wrap64 (1 + b8)), .int .i64 0, .int .i64 0, .int .i64 0, .int .i64 0]) ?_ 1 _ rfl; refine yar (cs := #[.int .i64 0, .int .i64 0, .int .i64 0, .int .i64 0, .int .i64 0]) ?_ 0 _ rfl; exact upB a6.out) b0.out (by simp)); replace HK := yaa (yap (by repeat (with_reducible first | exact HK.out | apply yae | apply yak | apply yaq | apply yal | refine yaf ?_ b3.out _ | refine yaf ?_ b4.out _)) hk (.inl rfl)); replace HB := yaa (hb); replace HI0 := yaa (hi); (try clear hb hk hi)) | ((with_reducible refine gc_ 27 rfl ?_); refine gl_ (some 39) rfl Tryz.func27 #[.pointer (some ⟨g, 0, none⟩), .int .i64 256] ?_; (with_reducible refine (spec_l20Rd_pick.calls k g s0_0 m3 256 i7 m4 w0 _ ?side1 ?side2 A33.out).mono ?_); (case side1 => repeat (with_reducible first | exact HI0.out | apply yah | apply yai | apply yam | apply yaj | refine yab ?_ a5.out _ | refine yab ?_ a3.out _)); (case side2 => repeat (with_reducible first | exact HB.out | apply yan | apply yad | apply yao | refine yac ?_ (Aside0.out ‹_›) | refine yac ?_ (yas HI0.out))); rintro e w36 ⟨rfl, hi, hb, hk⟩; refine ⟨_, rfl, ?_⟩; replace a4 := yaa (yag hk (upB a4.out) b2.out (by simp)); replace a6 := yaa (yag hk (upB a6.out) b0.out (by simp)); replace HK := yaa (yap (by repeat (with_reducible first | exact HK.out | apply yae | apply yak | apply yaq | apply yal | refine yaf ?_ b3.out _ | refine yaf ?_ b4.out _)) hk (.inl rfl)); replace HB := yaa (hb); replace HI0 := yaa (hi); (try clear hb hk hi)) | ((with_reducible refine gc_ 27 rfl ?_); refine gl_ (some 41) rfl Tryz.func27 #[.pointer (some ⟨g, 0, none⟩), .int .i64 256] ?_; (with_reducible refine (spec_l20Rd_pick.calls k g s0_0 m4 256 l5 m5 w0 _ ?side1 ?side2 A34.out).mono ?_); (case side1 => repeat (with_reducible first | exact HI0.out | apply yah | apply yai | apply yam | apply yaj | refine yab ?_ a5.out _ | refine yab ?_ a3.out _)); (case side2 => repeat (with_reducible first | exact HB.out | apply yan | apply yad | apply yao | refine yac ?_ (Aside0.out ‹_›) | refine yac ?_ (yas HI0.out))); rintro e w37 ⟨rfl, hi, hb, hk⟩; refine ⟨_, rfl, ?_⟩; replace a4 := yaa (yag hk (upB a4.out) b2.out (by simp)); replace a6 := yaa (yag hk (upB a6.out) b0.out (by simp)); replace HK := yaa (yap (by repeat (with_reducible first | exact HK.out | apply yae | apply yak | apply yaq | apply yal | refine yaf ?_ b3.out _ | refine yaf ?_ b4.out _)) hk (.inl rfl)); replace HB := yaa (hb); replace HI0 := yaa (hi); (try clear hb hk hi); have C9 := b7.out; have D0 := b1.out; have D1 := b0.out; have D2 := a3.out; obtain ⟨i8, i9, j1, j2, j3⟩ := cc5_ a6.out; obtain ⟨j4, j5, j6, j7⟩ := cf4_ a6.out; have j8 := blk_frozen a6.out 4))
   go_meet
   case rel => exact ⟨_, (m5), (8), (f0), (i7), (l5), (0), H', ⟨by first | omega | exact Nat.le_refl _⟩, ⟨by repeat (with_reducible first | exact a4.out | refine oneB ?_ | refine blk_far ?_ b1.out _)⟩, ⟨by (repeat refine oneB ?_); refine yar (cs := #[.int .i64 8, .int .i64 f0, .int .i64 i7, .int .i64 l5, .int .i64 0]) ?_ 4 _ rfl; refine yar (cs := #[.int .i64 8, .int .i64 f0, .int .i64 i7, .int .i64 0, .int .i64 0]) ?_ 3 _ rfl; refine yar (cs := #[.int .i64 8, .int .i64 f0, .int .i64 0, .int .i64 0, .int .i64 0]) ?_ 2 _ rfl; refine yar (cs := #[.int .i64 8, .int .i64 0, .int .i64 0, .int .i64 0, .int .i64 0]) ?_ 1 _ rfl; refine yar (cs := #[.int .i64 (wrap64 (1 + b8)), .int .i64 0, .int .i64 0, .int .i64 0, .int .i64 0]) ?_ 0 _ rfl; exact upB a6.out⟩, ⟨by repeat (with_reducible first | exact HI0.out | apply yah | apply yai | apply yam | apply yaj | refine yab ?_ a5.out _ | refine yab ?_ a3.out _)⟩, ⟨by repeat (with_reducible first | exact HK.out | apply yae | apply yak | apply yaq | apply yal | refine yaf ?_ b3.out _ | refine yaf ?_ b4.out _)⟩, ⟨by repeat (with_reducible first | exact HB.out | apply yan | apply yad | apply yao | refine yac ?_ (Aside0.out ‹_›) | refine yac ?_ (yas HI0.out))⟩⟩
  rw [if_neg c31] at H
  have l2 := beq_eq_false_iff_ne.mpr c31; have l3 := bne_iff_ne.mpr c31; have H' := yaa H; clear H
  go_wp2
  go_meet
  case rel => exact ⟨_, (e7), (wrap64 (1 + b8)), (0), (0), (0), (0), H', ⟨by first | omega | exact Nat.le_refl _⟩, ⟨by repeat (with_reducible first | exact a4.out | refine oneB ?_ | refine blk_far ?_ b1.out _)⟩, ⟨by (repeat refine oneB ?_); refine yar (cs := #[.int .i64 (wrap64 (1 + b8)), .int .i64 0, .int .i64 0, .int .i64 0, .int .i64 0]) ?_ 4 _ rfl; refine yar (cs := #[.int .i64 (wrap64 (1 + b8)), .int .i64 0, .int .i64 0, .int .i64 0, .int .i64 0]) ?_ 3 _ rfl; refine yar (cs := #[.int .i64 (wrap64 (1 + b8)), .int .i64 0, .int .i64 0, .int .i64 0, .int .i64 0]) ?_ 2 _ rfl; refine yar (cs := #[.int .i64 (wrap64 (1 + b8)), .int .i64 0, .int .i64 0, .int .i64 0, .int .i64 0]) ?_ 1 _ rfl; refine yar (cs := #[.int .i64 0, .int .i64 0, .int .i64 0, .int .i64 0, .int .i64 0]) ?_ 0 _ rfl; exact upB a6.out⟩, ⟨by repeat (with_reducible first | exact HI0.out | apply yah | apply yai | apply yam | apply yaj | refine yab ?_ a5.out _ | refine yab ?_ a3.out _)⟩, ⟨by repeat (with_reducible first | exact HK.out | apply yae | apply yak | apply yaq | apply yal | refine yaf ?_ b3.out _ | refine yaf ?_ b4.out _)⟩, ⟨by repeat (with_reducible first | exact HB.out | apply yan | apply yad | apply yao | refine yac ?_ (Aside0.out ‹_›) | refine yac ?_ (yas HI0.out))⟩⟩
 case rest =>
  clear HC4; (try clear c1); (try clear c2); (try clear p2); (try clear c3); (try clear c4); (try clear p6); (try clear c8); (try clear c9); (try clear c11); (try clear d3); (try clear k9); (try clear c20); (try clear c21); (try clear c23); (try clear l0); (try clear l1); (try clear c27); (try clear c28); (try clear c29); (try clear c31); (try clear l2); (try clear l3); (try clear c38); (try clear c39); (try clear f5); (try clear f6); (try clear f7); (try clear f8); (try clear f9); (try clear g6); (try clear g7); (try clear g8); (try clear g9); (try clear h0); (try clear h7); (try clear h8); (try clear h9); (try clear i0); (try clear i1); (try clear i8); (try clear i9); (try clear j1); (try clear j2); (try clear j3); (try clear g0); (try clear g1); (try clear g2); (try clear g3); (try clear g4); (try clear h1); (try clear h2); (try clear h3); (try clear h4); (try clear h5); (try clear i2); (try clear i3); (try clear i4); (try clear i5); (try clear i6); (try clear j4); (try clear j5); (try clear j6); (try clear j7); (try clear j8); obtain ⟨kq, c0, a7, a8, a9, b5, b6, HA, HJ3, a4, a6, HI0, HK, HB⟩ := hcut
  cases kq with
  | zero => exact absurd HA.out (by simp [spec_l20Op.j0])
  | succ kj3 =>
   have H := HA.out; clear HA
   simp only [spec_l20Op.j0] at H
   obtain ⟨⟨z7, d4⟩, A41, H⟩ := bindA H; (try dsimp only at H)
   by_cases c42 : z7 = true
   rotate_left
   ·
    replace c42 := Bool.eq_false_iff.mpr c42
    subst c42
    rw [if_neg (show ¬ (false = true) by decide)] at H
    simp only [Option.some.injEq, Prod.mk.injEq] at H
    obtain ⟨rfl, rfl, rfl, rfl, rfl, rfl⟩ := H
    go_wp2_with (first | ((with_reducible refine gc_ 43 rfl ?_); refine gl_ (some 45) rfl Tryz.func43 #[.pointer (some ⟨g, 0, none⟩), .int .i64 a1] ?_; (with_reducible refine (spec_l20Rd_odd.calls kj3 g s0_0 c0 a1 false d4 w0 _ ?side1 ?side2 A41.out).mono ?_); (case side1 => repeat (with_reducible first | exact HI0.out | apply yah | apply yai | apply yam | apply yaj | refine yab ?_ a5.out _ | refine yab ?_ a3.out _)); (case side2 => repeat (with_reducible first | exact HB.out | apply yan | apply yad | apply yao | refine yac ?_ (Aside0.out ‹_›) | refine yac ?_ (yas HI0.out))); rintro e w103 ⟨rfl, hi, hb, hk⟩; refine ⟨_, rfl, ?_⟩; replace a4 := yaa (yag hk (upB a4.out) b2.out (by simp)); replace a6 := yaa (yag hk (upB a6.out) b0.out (by simp)); replace HK := yaa (yap (by repeat (with_reducible first | exact HK.out | apply yae | apply yak | apply yaq | apply yal | refine yaf ?_ b3.out _ | refine yaf ?_ b4.out _)) hk (.inl rfl)); replace HB := yaa (hb); replace HI0 := yaa (hi); (try clear hb hk hi); have B3 := b7.out; have B4 := b1.out; have B5 := b0.out; have B6 := a3.out; obtain ⟨p3, p4, p5, p7, p8⟩ := cc5_ a6.out; obtain ⟨p9, q0, q1, q2, q3⟩ := cf5_ a6.out; have B7 := b2.out; have B8 := a5.out; obtain ⟨q4, q5, q6, q7, q8⟩ := cc5_ a4.out; obtain ⟨q9, r0, r7, r8⟩ := cf4_ a4.out; have r9 := blk_frozen a4.out 4))
    refine bodyPost_ret (results_cell_row rfl _ _ b9 65 #[.int .i64 a7, .int .i64 a8, .int .i64 a9, .int .i64 b5, .int .i64 b6] (0, 0) _ rfl (by (repeat refine oneB ?_); refine yar (cs := #[.int .i64 a7, .int .i64 a8, .int .i64 a9, .int .i64 b5, .int .i64 0]) ?_ 4 _ rfl; refine yar (cs := #[.int .i64 a7, .int .i64 a8, .int .i64 a9, .int .i64 0, .int .i64 0]) ?_ 3 _ rfl; refine yar (cs := #[.int .i64 a7, .int .i64 a8, .int .i64 0, .int .i64 0, .int .i64 0]) ?_ 2 _ rfl; refine yar (cs := #[.int .i64 a7, .int .i64 0, .int .i64 0, .int .i64 0, .int .i64 0]) ?_ 1 _ rfl; refine yar (cs := #[.int .i64 0, .int .i64 0, .int .i64 0, .int .i64 0, .int .i64 0]) ?_ 0 _ rfl; exact upB a4.out) Tryz.underlying65 rfl (by kernel_rfl)) rfl ?_
    exact ⟨by first | rfl | (simp [*, errW_none, errW_some] <;> rfl), by repeat (with_reducible first | exact HI0.out | apply yah | apply yai | apply yam | apply yaj | refine yab ?_ a5.out _ | refine yab ?_ a3.out _), by repeat (with_reducible first | exact HB.out | apply yan | apply yad | apply yao | refine yac ?_ (Aside0.out ‹_›) | refine yac ?_ (yas HI0.out)), by repeat (with_reducible first | exact HK.out | apply yae | apply yak | apply yaq | apply yal | refine yaf ?_ b3.out _ | refine yaf ?_ b4.out _)⟩
   subst c42
   rw [if_pos rfl] at H
   obtain ⟨⟨d7, c5⟩, A43, H⟩ := bindA H; (try dsimp only at H)
   by_cases c44 : d7 = 0
   ·
    rw [if_pos c44] at H
    have m6 := beq_iff_eq.mpr c44; have m7 := bne_eq_false_iff_eq.mpr c44; clear c44; obtain ⟨y127, hy127⟩ : ∃ y_ : List Int, y_ = (([0, 9] : List Int)) := ⟨_, rfl⟩
    replace H : ((spec_l20Rd_pick.f kj3 s0_0 c5 2).bind fun d9 => (if 0 ≤ d9.1 then (if d9.1 < (y127.length : Int) then (some (rd y127 d9.1, a8, a9, b5, b6, d9.2)) else (none)) else (none))) = some (r1, r2, r3, r4, r5, r6) := by first | (rw [hy127]; with_reducible exact H) | (have H2_ := (Option.bind_some _ _).symm.trans H; rw [hy127]; with_reducible exact H2_) | (have H2_ := (Option.bind_some _ _).symm.trans H; with_reducible exact H2_) | with_reducible exact H | (rw [hy127]; exact H) | exact H
    have Ny127 := yaa hy127; clear hy127; obtain ⟨⟨d1, z8⟩, A45, H⟩ := bindA H; (try dsimp only at H)
    by_cases c46 : 0 ≤ d1
    ·
     rw [if_pos c46] at H
     replace c46 := decide_eq_true c46
     by_cases c47 : d1 < (y127.length : Int)
     ·
      rw [if_pos c47] at H
      replace c47 := decide_eq_true c47
      simp only [Option.some.injEq, Prod.mk.injEq] at H
      obtain ⟨rfl, rfl, rfl, rfl, rfl, rfl⟩ := H
      go_wp2_with (first | ((with_reducible refine gc_ 43 rfl ?_); refine gl_ (some 45) rfl Tryz.func43 #[.pointer (some ⟨g, 0, none⟩), .int .i64 a1] ?_; (with_reducible refine (spec_l20Rd_odd.calls kj3 g s0_0 c0 a1 true d4 w0 _ ?side1 ?side2 A41.out).mono ?_); (case side1 => repeat (with_reducible first | exact HI0.out | apply yah | apply yai | apply yam | apply yaj | refine yab ?_ a5.out _ | refine yab ?_ a3.out _)); (case side2 => repeat (with_reducible first | exact HB.out | apply yan | apply yad | apply yao | refine yac ?_ (Aside0.out ‹_›) | refine yac ?_ (yas HI0.out))); rintro e w48 ⟨rfl, hi, hb, hk⟩; refine ⟨_, rfl, ?_⟩; replace a4 := yaa (yag hk (upB a4.out) b2.out (by simp)); replace a6 := yaa (yag hk (upB a6.out) b0.out (by simp)); replace HK := yaa (yap (by repeat (with_reducible first | exact HK.out | apply yae | apply yak | apply yaq | apply yal | refine yaf ?_ b3.out _ | refine yaf ?_ b4.out _)) hk (.inl rfl)); replace HB := yaa (hb); replace HI0 := yaa (hi); (try clear hb hk hi)) | ((with_reducible refine gc_ 27 rfl ?_); refine gl_ (some 47) rfl Tryz.func27 #[.pointer (some ⟨g, 0, none⟩), .int .i64 4] ?_; (with_reducible refine (spec_l20Rd_pick.calls kj3 g s0_0 d4 4 d7 c5 w0 _ ?side1 ?side2 A43.out).mono ?_); (case side1 => repeat (with_reducible first | exact HI0.out | apply yah | apply yai | apply yam | apply yaj | refine yab ?_ a5.out _ | refine yab ?_ a3.out _)); (case side2 => repeat (with_reducible first | exact HB.out | apply yan | apply yad | apply yao | refine yac ?_ (Aside0.out ‹_›) | refine yac ?_ (yas HI0.out))); rintro e w49 ⟨rfl, hi, hb, hk⟩; refine ⟨_, rfl, ?_⟩; replace a4 := yaa (yag hk (upB a4.out) b2.out (by simp)); replace a6 := yaa (yag hk (upB a6.out) b0.out (by simp)); replace HK := yaa (yap (by repeat (with_reducible first | exact HK.out | apply yae | apply yak | apply yaq | apply yal | refine yaf ?_ b3.out _ | refine yaf ?_ b4.out _)) hk (.inl rfl)); replace HB := yaa (hb); replace HI0 := yaa (hi); (try clear hb hk hi)) | ((with_reducible refine gd_ 56 rfl ?_); refine Kd.R_lit (Kd.int .i64) _ 3 ?hg (N := 56) ?hd (xs := ([0, 9] : List Int)) (inner := [.int .i64 0, .int .i64 9]) (ok := fun _ => True) (okp := fun _ => True) ?hr ?hp (fun _ hk => hk) trivial (Below.refl _ _) (Nat.le_refl _) (by simp) ?_; (case hd => rfl); (case hg => rfl); (case hr => first | (go_simp; done) | (go_simp; rfl)); (case hp => exact (Reps.one (show Kd.M (Kd.int .i64) _ _ _ 0 [.int .i64 0] from rfl) (Reps.one (show Kd.M (Kd.int .i64) _ _ _ 9 [.int .i64 9] from rfl) (Reps.none _ _)))); intro F9 w50 f1 hb hg_ hnew_; clear hg_ hnew_; (first | rw [← Ny127.out] at f1 | (simp only [Int.reduceToNat] at f1; rw [← Ny127.out] at f1)); have e0 := yaa (Kd.R_lower f1 (keep_size (w := w) (g := g) (row := none) (by repeat (with_reducible first | exact HK.out | apply yae | apply yak | apply yaq | apply yal | refine yaf ?_ b3.out _ | refine yaf ?_ b4.out _)))); replace a4 := yaa (blk_below (upB a4.out) hb); replace a6 := yaa (blk_below (upB a6.out) hb); replace HK := yaa (yap (by repeat (with_reducible first | exact HK.out | apply yae | apply yak | apply yaq | apply yal | refine yaf ?_ b3.out _ | refine yaf ?_ b4.out _)) (KeepBut.of_below hb g none) (.inl rfl)); replace HB := yaa (below_step (by repeat (with_reducible first | exact HB.out | apply yan | apply yad | apply yao | refine yac ?_ (Aside0.out ‹_›) | refine yac ?_ (yas HI0.out))) hb); replace HI0 := yaa (IsS77.below (by repeat (with_reducible first | exact HI0.out | apply yah | apply yai | apply yam | apply yaj | refine yab ?_ a5.out _ | refine yab ?_ a3.out _)) hb); clear hb f1) | ((with_reducible refine gc_ 27 rfl ?_); refine gl_ (some 58) rfl Tryz.func27 #[.pointer (some ⟨g, 0, none⟩), .int .i64 2] ?_; (with_reducible refine (spec_l20Rd_pick.calls kj3 g s0_0 c5 2 d1 z8 w0 _ ?side1 ?side2 A45.out).mono ?_); (case side1 => repeat (with_reducible first | exact HI0.out | apply yah | apply yai | apply yam | apply yaj | refine yab ?_ a5.out _ | refine yab ?_ a3.out _)); (case side2 => repeat (with_reducible first | exact HB.out | apply yan | apply yad | apply yao | refine yac ?_ (Aside0.out ‹_›) | refine yac ?_ (yas HI0.out))); rintro e w52 ⟨rfl, hi, hb, hk⟩; refine ⟨_, rfl, ?_⟩; replace a4 := yaa (yag hk (upB a4.out) b2.out (by simp)); replace a6 := yaa (yag hk (upB a6.out) b0.out (by simp)); replace e0 := yaa (Kd.R_mono (Kd.R_keep (IsS77.apart (show IsS77 w0 _ g s0_0 c5 from by repeat (with_reducible first | exact HI0.out | apply yah | apply yai | apply yam | apply yaj | refine yab ?_ a5.out _ | refine yab ?_ a3.out _)) (upR e0.out) (by decide)) hk (fun _ h => h.2)) (fun _ h => h.1)); replace HK := yaa (yap (by repeat (with_reducible first | exact HK.out | apply yae | apply yak | apply yaq | apply yal | refine yaf ?_ b3.out _ | refine yaf ?_ b4.out _)) hk (.inl rfl)); replace HB := yaa (hb); replace HI0 := yaa (hi); (try clear hb hk hi); obtain ⟨G0, G1, z9⟩ := Kd.R_slice e0.out; subst z9; have p132 : 0 ≤ (d1 : Int) := of_decide_eq_true (by assumption); have q132 : d1 < (y127.length : Int) := of_decide_eq_true (by assumption); obtain ⟨ad132, A0, s0⟩ := Kd.at_int (Kd.R_reads' e0.out).2.2 d1 p132 q132; cases A0; replace p132 := eq_true p132; replace q132 := eq_true q132; have D3 := b7.out; have D4 := b1.out; have D5 := b0.out; have D6 := a3.out; obtain ⟨s1, s2, s3, s4, s5⟩ := cc5_ a6.out; obtain ⟨s6, s7, s8, s9, t0⟩ := cf5_ a6.out; have D7 := b2.out; have D8 := a5.out; obtain ⟨t1, t2, t3, t4, t5⟩ := cc5_ a4.out; obtain ⟨t6, t7, t8, t9⟩ := cf4_ a4.out; have u0 := blk_frozen a4.out 4))
      refine bodyPost_ret (results_cell_row rfl _ _ b9 65 #[.int .i64 (rd y127 d1), .int .i64 a8, .int .i64 a9, .int .i64 b5, .int .i64 b6] (0, 0) _ rfl (by (repeat refine oneB ?_); refine yar (cs := #[.int .i64 (rd y127 d1), .int .i64 a8, .int .i64 a9, .int .i64 b5, .int .i64 0]) ?_ 4 _ rfl; refine yar (cs := #[.int .i64 (rd y127 d1), .int .i64 a8, .int .i64 a9, .int .i64 0, .int .i64 0]) ?_ 3 _ rfl; refine yar (cs := #[.int .i64 (rd y127 d1), .int .i64 a8, .int .i64 0, .int .i64 0, .int .i64 0]) ?_ 2 _ rfl; refine yar (cs := #[.int .i64 (rd y127 d1), .int .i64 0, .int .i64 0, .int .i64 0, .int .i64 0]) ?_ 1 _ rfl; refine yar (cs := #[.int .i64 0, .int .i64 0, .int .i64 0, .int .i64 0, .int .i64 0]) ?_ 0 _ rfl; (repeat refine oneB ?_); refine blk_far ?_ b1.out _; exact upB a4.out) Tryz.underlying65 rfl (by kernel_rfl)) rfl ?_
      exact ⟨by first | rfl | (simp [*, errW_none, errW_some] <;> rfl), by repeat (with_reducible first | exact HI0.out | apply yah | apply yai | apply yam | apply yaj | refine yab ?_ a5.out _ | refine yab ?_ a3.out _), by repeat (with_reducible first | exact HB.out | apply yan | apply yad | apply yao | refine yac ?_ (Aside0.out ‹_›) | refine yac ?_ (yas HI0.out)), by repeat (with_reducible first | exact HK.out | apply yae | apply yak | apply yaq | apply yal | refine yaf ?_ b3.out _ | refine yaf ?_ b4.out _)⟩
     rw [if_neg c47] at H
     exact absurd H (by simp)
    rw [if_neg c46] at H
    exact absurd H (by simp)
   rw [if_neg c44] at H
   have m6 := beq_eq_false_iff_ne.mpr c44; have m7 := bne_iff_ne.mpr c44
   by_cases c59 : d7 = 1
   ·
    rw [if_pos c59] at H
    have m8 := beq_iff_eq.mpr c59; have m9 := bne_eq_false_iff_eq.mpr c59; clear c59; obtain ⟨y133, hy133⟩ : ∃ y_ : List Int, y_ = (([(-1), 256] : List Int)) := ⟨_, rfl⟩
    replace H : ((spec_l20Rd_pick.f kj3 s0_0 c5 2).bind fun e1 => (if 0 ≤ e1.1 then (if e1.1 < (y133.length : Int) then (some (a7, rd y133 e1.1, a9, b5, b6, e1.2)) else (none)) else (none))) = some (r1, r2, r3, r4, r5, r6) := by first | (rw [hy133]; with_reducible exact H) | (have H2_ := (Option.bind_some _ _).symm.trans H; rw [hy133]; with_reducible exact H2_) | (have H2_ := (Option.bind_some _ _).symm.trans H; with_reducible exact H2_) | with_reducible exact H | (rw [hy133]; exact H) | exact H
    have Ny133 := yaa hy133; clear hy133; obtain ⟨⟨d2, A1⟩, A60, H⟩ := bindA H; (try dsimp only at H)
    by_cases c61 : 0 ≤ d2
    ·
     rw [if_pos c61] at H
     replace c61 := decide_eq_true c61
     by_cases c62 : d2 < (y133.length : Int)
     ·
      rw [if_pos c62] at H
      replace c62 := decide_eq_true c62
      simp only [Option.some.injEq, Prod.mk.injEq] at H
      obtain ⟨rfl, rfl, rfl, rfl, rfl, rfl⟩ := H
      go_wp2_with (first | ((with_reducible refine gc_ 43 rfl ?_); refine gl_ (some 45) rfl Tryz.func43 #[.pointer (some ⟨g, 0, none⟩), .int .i64 a1] ?_; (with_reducible refine (spec_l20Rd_odd.calls kj3 g s0_0 c0 a1 true d4 w0 _ ?side1 ?side2 A41.out).mono ?_); (case side1 => repeat (with_reducible first | exact HI0.out | apply yah | apply yai | apply yam | apply yaj | refine yab ?_ a5.out _ | refine yab ?_ a3.out _)); (case side2 => repeat (with_reducible first | exact HB.out | apply yan | apply yad | apply yao | refine yac ?_ (Aside0.out ‹_›) | refine yac ?_ (yas HI0.out))); rintro e w63 ⟨rfl, hi, hb, hk⟩; refine ⟨_, rfl, ?_⟩; replace a4 := yaa (yag hk (upB a4.out) b2.out (by simp)); replace a6 := yaa (yag hk (upB a6.out) b0.out (by simp)); replace HK := yaa (yap (by repeat (with_reducible first | exact HK.out | apply yae | apply yak | apply yaq | apply yal | refine yaf ?_ b3.out _ | refine yaf ?_ b4.out _)) hk (.inl rfl)); replace HB := yaa (hb); replace HI0 := yaa (hi); (try clear hb hk hi)) | ((with_reducible refine gc_ 27 rfl ?_); refine gl_ (some 47) rfl Tryz.func27 #[.pointer (some ⟨g, 0, none⟩), .int .i64 4] ?_; (with_reducible refine (spec_l20Rd_pick.calls kj3 g s0_0 d4 4 d7 c5 w0 _ ?side1 ?side2 A43.out).mono ?_); (case side1 => repeat (with_reducible first | exact HI0.out | apply yah | apply yai | apply yam | apply yaj | refine yab ?_ a5.out _ | refine yab ?_ a3.out _)); (case side2 => repeat (with_reducible first | exact HB.out | apply yan | apply yad | apply yao | refine yac ?_ (Aside0.out ‹_›) | refine yac ?_ (yas HI0.out))); rintro e w64 ⟨rfl, hi, hb, hk⟩; refine ⟨_, rfl, ?_⟩; replace a4 := yaa (yag hk (upB a4.out) b2.out (by simp)); replace a6 := yaa (yag hk (upB a6.out) b0.out (by simp)); replace HK := yaa (yap (by repeat (with_reducible first | exact HK.out | apply yae | apply yak | apply yaq | apply yal | refine yaf ?_ b3.out _ | refine yaf ?_ b4.out _)) hk (.inl rfl)); replace HB := yaa (hb); replace HI0 := yaa (hi); (try clear hb hk hi)) | ((with_reducible refine gd_ 64 rfl ?_); refine Kd.R_lit (Kd.int .i64) _ 3 ?hg (N := 64) ?hd (xs := ([(-1), 256] : List Int)) (inner := [.int .i64 (-1), .int .i64 256]) (ok := fun _ => True) (okp := fun _ => True) ?hr ?hp (fun _ hk => hk) trivial (Below.refl _ _) (Nat.le_refl _) (by simp) ?_; (case hd => rfl); (case hg => rfl); (case hr => first | (go_simp; done) | (go_simp; rfl)); (case hp => exact (Reps.one (show Kd.M (Kd.int .i64) _ _ _ (-1) [.int .i64 (-1)] from rfl) (Reps.one (show Kd.M (Kd.int .i64) _ _ _ 256 [.int .i64 256] from rfl) (Reps.none _ _)))); intro G2 w65 f2 hb hg_ hnew_; clear hg_ hnew_; (first | rw [← Ny133.out] at f2 | (simp only [Int.reduceToNat] at f2; rw [← Ny133.out] at f2)); have e2 := yaa (Kd.R_lower f2 (keep_size (w := w) (g := g) (row := none) (by repeat (with_reducible first | exact HK.out | apply yae | apply yak | apply yaq | apply yal | refine yaf ?_ b3.out _ | refine yaf ?_ b4.out _)))); replace a4 := yaa (blk_below (upB a4.out) hb); replace a6 := yaa (blk_below (upB a6.out) hb); replace HK := yaa (yap (by repeat (with_reducible first | exact HK.out | apply yae | apply yak | apply yaq | apply yal | refine yaf ?_ b3.out _ | refine yaf ?_ b4.out _)) (KeepBut.of_below hb g none) (.inl rfl)); replace HB := yaa (below_step (by repeat (with_reducible first | exact HB.out | apply yan | apply yad | apply yao | refine yac ?_ (Aside0.out ‹_›) | refine yac ?_ (yas HI0.out))) hb); replace HI0 := yaa (IsS77.below (by repeat (with_reducible first | exact HI0.out | apply yah | apply yai | apply yam | apply yaj | refine yab ?_ a5.out _ | refine yab ?_ a3.out _)) hb); clear hb f2) | ((with_reducible refine gc_ 27 rfl ?_); refine gl_ (some 66) rfl Tryz.func27 #[.pointer (some ⟨g, 0, none⟩), .int .i64 2] ?_; (with_reducible refine (spec_l20Rd_pick.calls kj3 g s0_0 c5 2 d2 A1 w0 _ ?side1 ?side2 A60.out).mono ?_); (case side1 => repeat (with_reducible first | exact HI0.out | apply yah | apply yai | apply yam | apply yaj | refine yab ?_ a5.out _ | refine yab ?_ a3.out _)); (case side2 => repeat (with_reducible first | exact HB.out | apply yan | apply yad | apply yao | refine yac ?_ (Aside0.out ‹_›) | refine yac ?_ (yas HI0.out))); rintro e w67 ⟨rfl, hi, hb, hk⟩; refine ⟨_, rfl, ?_⟩; replace a4 := yaa (yag hk (upB a4.out) b2.out (by simp)); replace a6 := yaa (yag hk (upB a6.out) b0.out (by simp)); replace e2 := yaa (Kd.R_mono (Kd.R_keep (IsS77.apart (show IsS77 w0 _ g s0_0 c5 from by repeat (with_reducible first | exact HI0.out | apply yah | apply yai | apply yam | apply yaj | refine yab ?_ a5.out _ | refine yab ?_ a3.out _)) (upR e2.out) (by decide)) hk (fun _ h => h.2)) (fun _ h => h.1)); replace HK := yaa (yap (by repeat (with_reducible first | exact HK.out | apply yae | apply yak | apply yaq | apply yal | refine yaf ?_ b3.out _ | refine yaf ?_ b4.out _)) hk (.inl rfl)); replace HB := yaa (hb); replace HI0 := yaa (hi); (try clear hb hk hi); obtain ⟨G3, G4, A2⟩ := Kd.R_slice e2.out; subst A2; have p138 : 0 ≤ (d2 : Int) := of_decide_eq_true (by assumption); have q138 : d2 < (y133.length : Int) := of_decide_eq_true (by assumption); obtain ⟨ad138, A4, u1⟩ := Kd.at_int (Kd.R_reads' e2.out).2.2 d2 p138 q138; cases A4; replace p138 := eq_true p138; replace q138 := eq_true q138; have D9 := b7.out; have E0 := b1.out; have E1 := b0.out; have E2 := a3.out; obtain ⟨u2, u3, u4, u5, u6⟩ := cc5_ a6.out; obtain ⟨u7, u8, u9, v0, v1⟩ := cf5_ a6.out; have E3 := b2.out; have E4 := a5.out; obtain ⟨v2, v3, v4, v5, v6⟩ := cc5_ a4.out; obtain ⟨v7, v8, v9, w1⟩ := cf4_ a4.out; have w2 := blk_frozen a4.out 4))
      refine bodyPost_ret (results_cell_row rfl _ _ b9 65 #[.int .i64 a7, .int .i64 (rd y133 d2), .int .i64 a9, .int .i64 b5, .int .i64 b6] (0, 0) _ rfl (by (repeat refine oneB ?_); refine yar (cs := #[.int .i64 a7, .int .i64 (rd y133 d2), .int .i64 a9, .int .i64 b5, .int .i64 0]) ?_ 4 _ rfl; refine yar (cs := #[.int .i64 a7, .int .i64 (rd y133 d2), .int .i64 a9, .int .i64 0, .int .i64 0]) ?_ 3 _ rfl; refine yar (cs := #[.int .i64 a7, .int .i64 (rd y133 d2), .int .i64 0, .int .i64 0, .int .i64 0]) ?_ 2 _ rfl; refine yar (cs := #[.int .i64 a7, .int .i64 0, .int .i64 0, .int .i64 0, .int .i64 0]) ?_ 1 _ rfl; refine yar (cs := #[.int .i64 0, .int .i64 0, .int .i64 0, .int .i64 0, .int .i64 0]) ?_ 0 _ rfl; (repeat refine oneB ?_); refine blk_far ?_ b1.out _; exact upB a4.out) Tryz.underlying65 rfl (by kernel_rfl)) rfl ?_
      exact ⟨by first | rfl | (simp [*, errW_none, errW_some] <;> rfl), by repeat (with_reducible first | exact HI0.out | apply yah | apply yai | apply yam | apply yaj | refine yab ?_ a5.out _ | refine yab ?_ a3.out _), by repeat (with_reducible first | exact HB.out | apply yan | apply yad | apply yao | refine yac ?_ (Aside0.out ‹_›) | refine yac ?_ (yas HI0.out)), by repeat (with_reducible first | exact HK.out | apply yae | apply yak | apply yaq | apply yal | refine yaf ?_ b3.out _ | refine yaf ?_ b4.out _)⟩
     rw [if_neg c62] at H
     exact absurd H (by simp)
    rw [if_neg c61] at H
    exact absurd H (by simp)
   rw [if_neg c59] at H
   have m8 := beq_eq_false_iff_ne.mpr c59; have m9 := bne_iff_ne.mpr c59
   by_cases c74 : d7 = 2
   ·
    rw [if_pos c74] at H
    have n0 := beq_iff_eq.mpr c74; have n1 := bne_eq_false_iff_eq.mpr c74; clear c74; obtain ⟨y139, hy139⟩ : ∃ y_ : List Int, y_ = (([(-1), 256] : List Int)) := ⟨_, rfl⟩
    replace H : ((spec_l20Rd_pick.f kj3 s0_0 c5 2).bind fun e3 => (if 0 ≤ e3.1 then (if e3.1 < (y139.length : Int) then (some (a7, a8, a9, rd y139 e3.1, b6, e3.2)) else (none)) else (none))) = some (r1, r2, r3, r4, r5, r6) := by first | (rw [hy139]; with_reducible exact H) | (have H2_ := (Option.bind_some _ _).symm.trans H; rw [hy139]; with_reducible exact H2_) | (have H2_ := (Option.bind_some _ _).symm.trans H; with_reducible exact H2_) | with_reducible exact H | (rw [hy139]; exact H) | exact H
    have Ny139 := yaa hy139; clear hy139; obtain ⟨⟨d6, A5⟩, A75, H⟩ := bindA H; (try dsimp only at H)
    by_cases c76 : 0 ≤ d6
    ·
     rw [if_pos c76] at H
     replace c76 := decide_eq_true c76
     by_cases c77 : d6 < (y139.length : Int)
     ·
      rw [if_pos c77] at H
      replace c77 := decide_eq_true c77
      simp only [Option.some.injEq, Prod.mk.injEq] at H
      obtain ⟨rfl, rfl, rfl, rfl, rfl, rfl⟩ := H
      go_wp2_with (first | ((with_reducible refine gc_ 43 rfl ?_); refine gl_ (some 45) rfl Tryz.func43 #[.pointer (some ⟨g, 0, none⟩), .int .i64 a1] ?_; (with_reducible refine (spec_l20Rd_odd.calls kj3 g s0_0 c0 a1 true d4 w0 _ ?side1 ?side2 A41.out).mono ?_); (case side1 => repeat (with_reducible first | exact HI0.out | apply yah | apply yai | apply yam | apply yaj | refine yab ?_ a5.out _ | refine yab ?_ a3.out _)); (case side2 => repeat (with_reducible first | exact HB.out | apply yan | apply yad | apply yao | refine yac ?_ (Aside0.out ‹_›) | refine yac ?_ (yas HI0.out))); rintro e w78 ⟨rfl, hi, hb, hk⟩; refine ⟨_, rfl, ?_⟩; replace a4 := yaa (yag hk (upB a4.out) b2.out (by simp)); replace a6 := yaa (yag hk (upB a6.out) b0.out (by simp)); replace HK := yaa (yap (by repeat (with_reducible first | exact HK.out | apply yae | apply yak | apply yaq | apply yal | refine yaf ?_ b3.out _ | refine yaf ?_ b4.out _)) hk (.inl rfl)); replace HB := yaa (hb); replace HI0 := yaa (hi); (try clear hb hk hi)) | ((with_reducible refine gc_ 27 rfl ?_); refine gl_ (some 47) rfl Tryz.func27 #[.pointer (some ⟨g, 0, none⟩), .int .i64 4] ?_; (with_reducible refine (spec_l20Rd_pick.calls kj3 g s0_0 d4 4 d7 c5 w0 _ ?side1 ?side2 A43.out).mono ?_); (case side1 => repeat (with_reducible first | exact HI0.out | apply yah | apply yai | apply yam | apply yaj | refine yab ?_ a5.out _ | refine yab ?_ a3.out _)); (case side2 => repeat (with_reducible first | exact HB.out | apply yan | apply yad | apply yao | refine yac ?_ (Aside0.out ‹_›) | refine yac ?_ (yas HI0.out))); rintro e w79 ⟨rfl, hi, hb, hk⟩; refine ⟨_, rfl, ?_⟩; replace a4 := yaa (yag hk (upB a4.out) b2.out (by simp)); replace a6 := yaa (yag hk (upB a6.out) b0.out (by simp)); replace HK := yaa (yap (by repeat (with_reducible first | exact HK.out | apply yae | apply yak | apply yaq | apply yal | refine yaf ?_ b3.out _ | refine yaf ?_ b4.out _)) hk (.inl rfl)); replace HB := yaa (hb); replace HI0 := yaa (hi); (try clear hb hk hi)) | ((with_reducible refine gd_ 72 rfl ?_); refine Kd.R_lit (Kd.int .i64) _ 3 ?hg (N := 72) ?hd (xs := ([(-1), 256] : List Int)) (inner := [.int .i64 (-1), .int .i64 256]) (ok := fun _ => True) (okp := fun _ => True) ?hr ?hp (fun _ hk => hk) trivial (Below.refl _ _) (Nat.le_refl _) (by simp) ?_; (case hd => rfl); (case hg => rfl); (case hr => first | (go_simp; done) | (go_simp; rfl)); (case hp => exact (Reps.one (show Kd.M (Kd.int .i64) _ _ _ (-1) [.int .i64 (-1)] from rfl) (Reps.one (show Kd.M (Kd.int .i64) _ _ _ 256 [.int .i64 256] from rfl) (Reps.none _ _)))); intro G5 w80 f3 hb hg_ hnew_; clear hg_ hnew_; (first | rw [← Ny139.out] at f3 | (simp only [Int.reduceToNat] at f3; rw [← Ny139.out] at f3)); have e4 := yaa (Kd.R_lower f3 (keep_size (w := w) (g := g) (row := none) (by repeat (with_reducible first | exact HK.out | apply yae | apply yak | apply yaq | apply yal | refine yaf ?_ b3.out _ | refine yaf ?_ b4.out _)))); replace a4 := yaa (blk_below (upB a4.out) hb); replace a6 := yaa (blk_below (upB a6.out) hb); replace HK := yaa (yap (by repeat (with_reducible first | exact HK.out | apply yae | apply yak | apply yaq | apply yal | refine yaf ?_ b3.out _ | refine yaf ?_ b4.out _)) (KeepBut.of_below hb g none) (.inl rfl)); replace HB := yaa (below_step (by repeat (with_reducible first | exact HB.out | apply yan | apply yad | apply yao | refine yac ?_ (Aside0.out ‹_›) | refine yac ?_ (yas HI0.out))) hb); replace HI0 := yaa (IsS77.below (by repeat (with_reducible first | exact HI0.out | apply yah | apply yai | apply yam | apply yaj | refine yab ?_ a5.out _ | refine yab ?_ a3.out _)) hb); clear hb f3) | ((with_reducible refine gc_ 27 rfl ?_); refine gl_ (some 74) rfl Tryz.func27 #[.pointer (some ⟨g, 0, none⟩), .int .i64 2] ?_; (with_reducible refine (spec_l20Rd_pick.calls kj3 g s0_0 c5 2 d6 A5 w0 _ ?side1 ?side2 A75.out).mono ?_); (case side1 => repeat (with_reducible first | exact HI0.out | apply yah | apply yai | apply yam | apply yaj | refine yab ?_ a5.out _ | refine yab ?_ a3.out _)); (case side2 => repeat (with_reducible first | exact HB.out | apply yan | apply yad | apply yao | refine yac ?_ (Aside0.out ‹_›) | refine yac ?_ (yas HI0.out))); rintro e w82 ⟨rfl, hi, hb, hk⟩; refine ⟨_, rfl, ?_⟩; replace a4 := yaa (yag hk (upB a4.out) b2.out (by simp)); replace a6 := yaa (yag hk (upB a6.out) b0.out (by simp)); replace e4 := yaa (Kd.R_mono (Kd.R_keep (IsS77.apart (show IsS77 w0 _ g s0_0 c5 from by repeat (with_reducible first | exact HI0.out | apply yah | apply yai | apply yam | apply yaj | refine yab ?_ a5.out _ | refine yab ?_ a3.out _)) (upR e4.out) (by decide)) hk (fun _ h => h.2)) (fun _ h => h.1)); replace HK := yaa (yap (by repeat (with_reducible first | exact HK.out | apply yae | apply yak | apply yaq | apply yal | refine yaf ?_ b3.out _ | refine yaf ?_ b4.out _)) hk (.inl rfl)); replace HB := yaa (hb); replace HI0 := yaa (hi); (try clear hb hk hi); obtain ⟨G6, G7, A6⟩ := Kd.R_slice e4.out; subst A6; have p144 : 0 ≤ (d6 : Int) := of_decide_eq_true (by assumption); have q144 : d6 < (y139.length : Int) := of_decide_eq_true (by assumption); obtain ⟨ad144, A7, w3⟩ := Kd.at_int (Kd.R_reads' e4.out).2.2 d6 p144 q144; cases A7; replace p144 := eq_true p144; replace q144 := eq_true q144; have E5 := b7.out; have E6 := b1.out; have E7 := b0.out; have E8 := a3.out; obtain ⟨w4, w8, w9, x0, x2⟩ := cc5_ a6.out; obtain ⟨x3, x4, x5, x6, x7⟩ := cf5_ a6.out; have E9 := b2.out; have F0 := a5.out; obtain ⟨x8, x9, y8, y9, z0⟩ := cc5_ a4.out; obtain ⟨z1, z2, z3, z4⟩ := cf4_ a4.out; have z5 := blk_frozen a4.out 4))
      refine bodyPost_ret (results_cell_row rfl _ _ b9 65 #[.int .i64 a7, .int .i64 a8, .int .i64 a9, .int .i64 (rd y139 d6), .int .i64 b6] (0, 0) _ rfl (by (repeat refine oneB ?_); refine yar (cs := #[.int .i64 a7, .int .i64 a8, .int .i64 a9, .int .i64 (rd y139 d6), .int .i64 0]) ?_ 4 _ rfl; refine yar (cs := #[.int .i64 a7, .int .i64 a8, .int .i64 a9, .int .i64 0, .int .i64 0]) ?_ 3 _ rfl; refine yar (cs := #[.int .i64 a7, .int .i64 a8, .int .i64 0, .int .i64 0, .int .i64 0]) ?_ 2 _ rfl; refine yar (cs := #[.int .i64 a7, .int .i64 0, .int .i64 0, .int .i64 0, .int .i64 0]) ?_ 1 _ rfl; refine yar (cs := #[.int .i64 0, .int .i64 0, .int .i64 0, .int .i64 0, .int .i64 0]) ?_ 0 _ rfl; (repeat refine oneB ?_); refine blk_far ?_ b1.out _; exact upB a4.out) Tryz.underlying65 rfl (by kernel_rfl)) rfl ?_
      exact ⟨by first | rfl | (simp [*, errW_none, errW_some] <;> rfl), by repeat (with_reducible first | exact HI0.out | apply yah | apply yai | apply yam | apply yaj | refine yab ?_ a5.out _ | refine yab ?_ a3.out _), by repeat (with_reducible first | exact HB.out | apply yan | apply yad | apply yao | refine yac ?_ (Aside0.out ‹_›) | refine yac ?_ (yas HI0.out)), by repeat (with_reducible first | exact HK.out | apply yae | apply yak | apply yaq | apply yal | refine yaf ?_ b3.out _ | refine yaf ?_ b4.out _)⟩
     rw [if_neg c77] at H
     exact absurd H (by simp)
    rw [if_neg c76] at H
    exact absurd H (by simp)
   rw [if_neg c74] at H
   have n0 := beq_eq_false_iff_ne.mpr c74; have n1 := bne_iff_ne.mpr c74; obtain ⟨y145, hy145⟩ : ∃ y_ : List Int, y_ = (([1, 7] : List Int)) := ⟨_, rfl⟩
   replace H : ((spec_l20Rd_pick.f kj3 s0_0 c5 2).bind fun e5 => (if 0 ≤ e5.1 then (if e5.1 < (y145.length : Int) then (some (a7, a8, a9, b5, rd y145 e5.1, e5.2)) else (none)) else (none))) = some (r1, r2, r3, r4, r5, r6) := by first | (rw [hy145]; with_reducible exact H) | (have H2_ := (Option.bind_some _ _).symm.trans H; rw [hy145]; with_reducible exact H2_) | (have H2_ := (Option.bind_some _ _).symm.trans H; with_reducible exact H2_) | with_reducible exact H | (rw [hy145]; exact H) | exact H
   have Ny145 := yaa hy145; clear hy145; obtain ⟨⟨d8, A8⟩, A89, H⟩ := bindA H; (try dsimp only at H)
   by_cases c90 : 0 ≤ d8
   ·
    rw [if_pos c90] at H
    replace c90 := decide_eq_true c90
    by_cases c91 : d8 < (y145.length : Int)
    ·
     rw [if_pos c91] at H
     replace c91 := decide_eq_true c91
     simp only [Option.some.injEq, Prod.mk.injEq] at H
     obtain ⟨rfl, rfl, rfl, rfl, rfl, rfl⟩ := H
     go_wp2_with (first | ((with_reducible refine gc_ 43 rfl ?_); refine gl_ (some 45) rfl Tryz.func43 #[.pointer (some ⟨g, 0, none⟩), .int .i64 a1] ?_; (with_reducible refine (spec_l20Rd_odd.calls kj3 g s0_0 c0 a1 true d4 w0 _ ?side1 ?side2 A41.out).mono ?_); (case side1 => repeat (with_reducible first | exact HI0.out | apply yah | apply yai | apply yam | apply yaj | refine yab ?_ a5.out _ | refine yab ?_ a3.out _)); (case side2 => repeat (with_reducible first | exact HB.out | apply yan | apply yad | apply yao | refine yac ?_ (Aside0.out ‹_›) | refine yac ?_ (yas HI0.out))); rintro e w92 ⟨rfl, hi, hb, hk⟩; refine ⟨_, rfl, ?_⟩; replace a4 := yaa (yag hk (upB a4.out) b2.out (by simp)); replace a6 := yaa (yag hk (upB a6.out) b0.out (by simp)); replace HK := yaa (yap (by repeat (with_reducible first | exact HK.out | apply yae | apply yak | apply yaq | apply yal | refine yaf ?_ b3.out _ | refine yaf ?_ b4.out _)) hk (.inl rfl)); replace HB := yaa (hb); replace HI0 := yaa (hi); (try clear hb hk hi)) | ((with_reducible refine gc_ 27 rfl ?_); refine gl_ (some 47) rfl Tryz.func27 #[.pointer (some ⟨g, 0, none⟩), .int .i64 4] ?_; (with_reducible refine (spec_l20Rd_pick.calls kj3 g s0_0 d4 4 d7 c5 w0 _ ?side1 ?side2 A43.out).mono ?_); (case side1 => repeat (with_reducible first | exact HI0.out | apply yah | apply yai | apply yam | apply yaj | refine yab ?_ a5.out _ | refine yab ?_ a3.out _)); (case side2 => repeat (with_reducible first | exact HB.out | apply yan | apply yad | apply yao | refine yac ?_ (Aside0.out ‹_›) | refine yac ?_ (yas HI0.out))); rintro e w93 ⟨rfl, hi, hb, hk⟩; refine ⟨_, rfl, ?_⟩; replace a4 := yaa (yag hk (upB a4.out) b2.out (by simp)); replace a6 := yaa (yag hk (upB a6.out) b0.out (by simp)); replace HK := yaa (yap (by repeat (with_reducible first | exact HK.out | apply yae | apply yak | apply yaq | apply yal | refine yaf ?_ b3.out _ | refine yaf ?_ b4.out _)) hk (.inl rfl)); replace HB := yaa (hb); replace HI0 := yaa (hi); (try clear hb hk hi)) | ((with_reducible refine gd_ 48 rfl ?_); refine Kd.R_lit (Kd.int .i64) _ 3 ?hg (N := 48) ?hd (xs := ([1, 7] : List Int)) (inner := [.int .i64 1, .int .i64 7]) (ok := fun _ => True) (okp := fun _ => True) ?hr ?hp (fun _ hk => hk) trivial (Below.refl _ _) (Nat.le_refl _) (by simp) ?_; (case hd => rfl); (case hg => rfl); (case hr => first | (go_simp; done) | (go_simp; rfl)); (case hp => exact (Reps.one (show Kd.M (Kd.int .i64) _ _ _ 1 [.int .i64 1] from rfl) (Reps.one (show Kd.M (Kd.int .i64) _ _ _ 7 [.int .i64 7] from rfl) (Reps.none _ _)))); intro G8 w94 f4 hb hg_ hnew_; clear hg_ hnew_; (first | rw [← Ny145.out] at f4 | (simp only [Int.reduceToNat] at f4; rw [← Ny145.out] at f4)); have e6 := yaa (Kd.R_lower f4 (keep_size (w := w) (g := g) (row := none) (by repeat (with_reducible first | exact HK.out | apply yae | apply yak | apply yaq | apply yal | refine yaf ?_ b3.out _ | refine yaf ?_ b4.out _)))); replace a4 := yaa (blk_below (upB a4.out) hb); replace a6 := yaa (blk_below (upB a6.out) hb); replace HK := yaa (yap (by repeat (with_reducible first | exact HK.out | apply yae | apply yak | apply yaq | apply yal | refine yaf ?_ b3.out _ | refine yaf ?_ b4.out _)) (KeepBut.of_below hb g none) (.inl rfl)); replace HB := yaa (below_step (by repeat (with_reducible first | exact HB.out | apply yan | apply yad | apply yao | refine yac ?_ (Aside0.out ‹_›) | refine yac ?_ (yas HI0.out))) hb); replace HI0 := yaa (IsS77.below (by repeat (with_reducible first | exact HI0.out | apply yah | apply yai | apply yam | apply yaj | refine yab ?_ a5.out _ | refine yab ?_ a3.out _)) hb); clear hb f4) | ((with_reducible refine gc_ 27 rfl ?_); refine gl_ (some 50) rfl Tryz.func27 #[.pointer (some ⟨g, 0, none⟩), .int .i64 2] ?_; (with_reducible refine (spec_l20Rd_pick.calls kj3 g s0_0 c5 2 d8 A8 w0 _ ?side1 ?side2 A89.out).mono ?_); (case side1 => repeat (with_reducible first | exact HI0.out | apply yah | apply yai | apply yam | apply yaj | refine yab ?_ a5.out _ | refine yab ?_ a3.out _)); (case side2 => repeat (with_reducible first | exact HB.out | apply yan | apply yad | apply yao | refine yac ?_ (Aside0.out ‹_›) | refine yac ?_ (yas HI0.out))); rintro e w96 ⟨rfl, hi, hb, hk⟩; refine ⟨_, rfl, ?_⟩; replace a4 := yaa (yag hk (upB a4.out) b2.out (by simp)); replace a6 := yaa (yag hk (upB a6.out) b0.out (by simp)); replace e6 := yaa (Kd.R_mono (Kd.R_keep (IsS77.apart (show IsS77 w0 _ g s0_0 c5 from by repeat (with_reducible first | exact HI0.out | apply yah | apply yai | apply yam | apply yaj | refine yab ?_ a5.out _ | refine yab ?_ a3.out _)) (upR e6.out) (by decide)) hk (fun _ h => h.2)) (fun _ h => h.1)); replace HK := yaa (yap (by repeat (with_reducible first | exact HK.out | apply yae | apply yak | apply yaq | apply yal | refine yaf ?_ b3.out _ | refine yaf ?_ b4.out _)) hk (.inl rfl)); replace HB := yaa (hb); replace HI0 := yaa (hi); (try clear hb hk hi); obtain ⟨G9, H0, A9⟩ := Kd.R_slice e6.out; subst A9; have p150 : 0 ≤ (d8 : Int) := of_decide_eq_true (by assumption); have q150 : d8 < (y145.length : Int) := of_decide_eq_true (by assumption); obtain ⟨ad150, B0, z6⟩ := Kd.at_int (Kd.R_reads' e6.out).2.2 d8 p150 q150; cases B0; replace p150 := eq_true p150; replace q150 := eq_true q150; have F1 := b7.out; have F2 := b1.out; have F3 := b0.out; have F4 := a3.out; obtain ⟨n2, n3, n4, n5, n6⟩ := cc5_ a6.out; obtain ⟨n7, n8, n9, o0, o1⟩ := cf5_ a6.out; have B1 := b2.out; have B2 := a5.out; obtain ⟨o2, o3, o4, o5, o6⟩ := cc5_ a4.out; obtain ⟨o7, o8, o9, p0⟩ := cf4_ a4.out; have p1 := blk_frozen a4.out 4))
     refine bodyPost_ret (results_cell_row rfl _ _ b9 65 #[.int .i64 a7, .int .i64 a8, .int .i64 a9, .int .i64 b5, .int .i64 (rd y145 d8)] (0, 0) _ rfl (by (repeat refine oneB ?_); refine yar (cs := #[.int .i64 a7, .int .i64 a8, .int .i64 a9, .int .i64 b5, .int .i64 0]) ?_ 4 _ rfl; refine yar (cs := #[.int .i64 a7, .int .i64 a8, .int .i64 a9, .int .i64 0, .int .i64 0]) ?_ 3 _ rfl; refine yar (cs := #[.int .i64 a7, .int .i64 a8, .int .i64 0, .int .i64 0, .int .i64 0]) ?_ 2 _ rfl; refine yar (cs := #[.int .i64 a7, .int .i64 0, .int .i64 0, .int .i64 0, .int .i64 0]) ?_ 1 _ rfl; refine yar (cs := #[.int .i64 0, .int .i64 0, .int .i64 0, .int .i64 0, .int .i64 0]) ?_ 0 _ rfl; (repeat refine oneB ?_); refine blk_far ?_ b1.out _; exact upB a4.out) Tryz.underlying65 rfl (by kernel_rfl)) rfl ?_
     exact ⟨by first | rfl | (simp [*, errW_none, errW_some] <;> rfl), by repeat (with_reducible first | exact HI0.out | apply yah | apply yai | apply yam | apply yaj | refine yab ?_ a5.out _ | refine yab ?_ a3.out _), by repeat (with_reducible first | exact HB.out | apply yan | apply yad | apply yao | refine yac ?_ (Aside0.out ‹_›) | refine yac ?_ (yas HI0.out)), by repeat (with_reducible first | exact HK.out | apply yae | apply yak | apply yaq | apply yal | refine yaf ?_ b3.out _ | refine yaf ?_ b4.out _)⟩
    rw [if_neg c91] at H
    exact absurd H (by simp)
   rw [if_neg c90] at H
   exact absurd H (by simp)
end
section
open Go.Proofs.YtmplnpjdbfedbaaGreatDoorW.PrintWords.Aside0 renaming mk → yaa
open Go.Proofs.YtmplnpjdbfedbaaGreatDoorW.PrintWords.KeepBut renaming set_ → yab, trans → yan
open Go.Proofs.YtmplnpjdbfedbaaGreatDoorW.PrintWords renaming pw_below_drewN → yac, keep_drewN → yah, keep_alloc → yai, below_alloc → yaj, below_drew1 → yak, keep_drew → yal, below_set → yam
open Go.Proofs.YtmplnpjdbfedbaaGreatDoor.X.IsS77 renaming alloc → yad, drewN → yae, set_1 → yaf, drew → yag
mutual
def spec_l20Ops.l0 : Nat → Int → List (S65) → Int → List Int → Int → Option ((List (S65)) × Int)
 | 0, _, _, _, _, _ => none
 | k + 1, x1, x5, x6, x1000, x1001 => if x6 > 0 then ((spec_l20Op.f k x1000 x1001 0).bind fun bt106 => (if x5.length < 3518437208883 then (spec_l20Ops.l0 k x1 (x5 ++ [(⟨bt106.1, bt106.2.1, bt106.2.2.1, bt106.2.2.2.1, bt106.2.2.2.2.1⟩ : S65)]) (wrap64 (x6 - 1)) x1000 bt106.2.2.2.2.2) else (none))) else ((spec_l20Rd_odd.f k x1000 x1001 x1).bind fun bt115 => (if bt115.1 = true then ((spec_l20Op.f k x1000 bt115.2 1).bind fun bt117 => (if x5.length < 3518437208883 then (spec_l20Ops.j1 k x1 (x5 ++ [(⟨bt117.1, bt117.2.1, bt117.2.2.1, bt117.2.2.2.1, bt117.2.2.2.2.1⟩ : S65)]) x1000 bt117.2.2.2.2.2) else (none))) else (spec_l20Ops.j1 k x1 x5 x1000 bt115.2)))
def spec_l20Ops.j1 : Nat → Int → List (S65) → List Int → Int → Option ((List (S65)) × Int)
 | 0, _, _, _, _ => none
 | k + 1, x1, x5, x1000, x1001 => (spec_l20Rd_odd.f k x1000 x1001 x1).bind fun bt126 => (if bt126.1 = true then (spec_l20Ops.l1 k x5 x1000 bt126.2) else (some (x5, bt126.2)))
def spec_l20Ops.l1 : Nat → List (S65) → List Int → Int → Option ((List (S65)) × Int)
 | 0, _, _, _ => none
 | k + 1, x5, x1000, x1001 => if (x5.length : Int) ≤ 5 then (if x5.length < 3518437208883 then (spec_l20Ops.l1 k (x5 ++ [(⟨4, 0, 0, 0, 0⟩ : S65)]) x1000 x1001) else (none)) else (some (x5, x1001))
end
def spec_l20Ops.f (k : Nat) (s0_0 : List Int) (s0_1 : Int) (a1 : Int) : Option ((List (S65)) × Int) := (spec_l20Rd_pick.f k s0_0 s0_1 6).bind fun bt104 => (spec_l20Ops.l0 k a1 (([] : List (S65))) bt104.1 s0_0 bt104.2)
set_option maxHeartbeats 8000000 in
set_option maxRecDepth 100000 in
theorem spec_l20Ops.calls (k : Nat) (g : Nat) (s0_0 : List Int) (s0_1 : Int) (a1 : Int) (r1 : List (S65)) (r2 : Int) (w0 w : World) (hI : IsS77 w0 w g s0_0 s0_1) (hB : Below w0.heap.size w0 w) (h : spec_l20Ops.f k s0_0 s0_1 a1 = some (r1, r2)) :
  Calls Tryz.prog 41 #[.pointer (some ⟨g, 0, none⟩), .int .i64 a1] w fun e w' => ∃ v0_ : Value, e = .returned (v0_) ∧ Kd.R k65 65 w' w.heap.size (fun _ => True) v0_ r1 ∧ IsS77 w0 w' g s0_0 r2 ∧ Below w0.heap.size w0 w' ∧ KeepBut w w' g none := by
 have hu65 := Tryz.underlying65; have HI0 := yaa hI; have HK := yaa (KeepBut.refl w g none); have HL := yaa hB.size; clear hI; have HW0 := yaa hB.size; have HB := yaa hB; clear hB; have H : ((spec_l20Rd_pick.f k s0_0 s0_1 6).bind fun a8 => (spec_l20Ops.l0 k a1 (([] : List (S65))) a8.1 s0_0 a8.2)) = some (r1, r2) := h; clear h; obtain ⟨y101, hy101⟩ : ∃ y_ : List (S65), y_ = (([] : List (S65))) := ⟨_, rfl⟩
 replace H : ((spec_l20Rd_pick.f k s0_0 s0_1 6).bind fun a8 => (spec_l20Ops.l0 k a1 y101 a8.1 s0_0 a8.2)) = some (r1, r2) := by first | (rw [hy101]; with_reducible exact H) | (have H2_ := (Option.bind_some _ _).symm.trans H; rw [hy101]; with_reducible exact H2_) | (have H2_ := (Option.bind_some _ _).symm.trans H; with_reducible exact H2_) | with_reducible exact H | (rw [hy101]; exact H) | exact H
 have Ny101 := yaa hy101; clear hy101; obtain ⟨⟨d5, d6⟩, A3, H⟩ := bindA H; (try dsimp only at H); have H' := yaa H; clear H
 go_enter Tryz.func41, Tryz.ntmps41
 go_wp2_with (first | ((with_reducible refine gd_ 7 rfl ?_); refine Kd.R_lit k65 _ 65 ?hg (N := 7) ?hd (xs := ([] : List (S65))) (inner := []) (ok := fun _ => True) (okp := fun _ => True) ?hr ?hp (fun _ hk => hk) trivial (Below.refl _ _) (Nat.le_refl _) (by simp) ?_; (case hd => rfl); (case hg => rfl); (case hr => first | (go_simp; done) | (go_simp; rfl)); (case hp => exact (Reps.none _ _)); intro e5 w4 ho5 hb hg_ hnew_; clear hg_ hnew_; (first | rw [← Ny101.out] at ho5 | (simp only [Int.reduceToNat] at ho5; rw [← Ny101.out] at ho5)); have b0 := yaa (Kd.R_lower ho5 (keep_size (w := w) (g := g) (row := none) (by repeat (with_reducible first | exact HK.out | apply yab | apply yah | apply yal | apply yai)))); replace HK := yaa (yan (by repeat (with_reducible first | exact HK.out | apply yab | apply yah | apply yal | apply yai)) (KeepBut.of_below hb g none) (.inl rfl)); replace HB := yaa (below_step (by repeat (with_reducible first | exact HB.out | apply yaj | apply yac | apply yak | refine yam ?_ (IsS77.ge HI0.out))) hb); replace HI0 := yaa (IsS77.below (by repeat (with_reducible first | exact HI0.out | apply yad | apply yae | apply yag | apply yaf)) hb); clear hb ho5) | ((with_reducible refine gc_ 27 rfl ?_); refine gl_ (some 9) rfl Tryz.func27 #[.pointer (some ⟨g, 0, none⟩), .int .i64 6] ?_; (with_reducible refine (spec_l20Rd_pick.calls k g s0_0 s0_1 6 d5 d6 w0 _ ?side1 ?side2 A3.out).mono ?_); (case side1 => repeat (with_reducible first | exact HI0.out | apply yad | apply yae | apply yag | apply yaf)); (case side2 => repeat (with_reducible first | exact HB.out | apply yaj | apply yac | apply yak | refine yam ?_ (IsS77.ge HI0.out))); rintro e w6 ⟨rfl, hi, hb, hk⟩; refine ⟨_, rfl, ?_⟩; replace b0 := yaa (Kd.R_mono (Kd.R_keep (IsS77.apart (show IsS77 w0 _ g s0_0 s0_1 from by repeat (with_reducible first | exact HI0.out | apply yad | apply yae | apply yag | apply yaf)) (upR b0.out) (by decide)) hk (fun _ h => h.2)) (fun _ h => h.1)); replace HK := yaa (yan (by repeat (with_reducible first | exact HK.out | apply yab | apply yah | apply yal | apply yai)) hk (.inl rfl)); replace HB := yaa (hb); replace HI0 := yaa (hi); (try clear hb hk hi)))
 (try simp only [Act.put, List.setIfInBounds_toArray, List.set_cons_zero, List.set_cons_succ])
 go_loopg [5, 6] k (fun kq v5 v6 w' => ∃ (a7 : List (S65)) (a9 : Int) (a5 : Int), v6 = .int .i64 a9 ∧ Aside0 (spec_l20Ops.l0 kq a1 a7 a9 s0_0 a5 = some (r1, r2)) ∧ Aside0 (kq ≤ k) ∧ Aside0 (Kd.R k65 65 w' w.heap.size (fun _ => True) v5 a7) ∧ Aside0 (IsS77 w0 w' g s0_0 a5) ∧ Aside0 (KeepBut w w' g none) ∧ Aside0 (Below w0.heap.size w0 w'))
 case atStart => exact ⟨(y101), (d5), (d6), (by first | rfl | (simp; done) | (simp [*]; done)), H', ⟨Nat.le_refl _⟩, ⟨by first | exact b0.out | exact upR b0.out⟩, ⟨by repeat (with_reducible first | exact HI0.out | apply yad | apply yae | apply yag | apply yaf)⟩, ⟨by repeat (with_reducible first | exact HK.out | apply yab | apply yah | apply yal | apply yai)⟩, ⟨by repeat (with_reducible first | exact HB.out | apply yaj | apply yac | apply yak | refine yam ?_ (IsS77.ge HI0.out))⟩⟩
 case round =>
  clear H'; (try clear c2); (try clear p2); (try clear c4); obtain ⟨a7, a9, a5, rfl, HA, HK1, a3, HI0, HK, HB⟩ := hrel
  cases gk with
  | zero => exact absurd HA.out (by simp [spec_l20Ops.l0])
  | succ k1 =>
   have H := HA.out; clear HA
   simp only [spec_l20Ops.l0] at H
   by_cases c7 : a9 > 0
   ·
    rw [if_pos c7] at H
    have d2 : decide (0 < a9) = true := decide_eq_true c7; clear c7; obtain ⟨⟨b2, b3, b4, b5, b6, d3⟩, A8, H⟩ := bindA H; (try dsimp only at H)
    by_cases c9 : a7.length < 3518437208883
    ·
     rw [if_pos c9] at H
     have LMc9 := yaa c9; clear c9; obtain ⟨y112, hy112⟩ : ∃ y_ : List (S65), y_ = (a7 ++ [(⟨b2, b3, b4, b5, b6⟩ : S65)]) := ⟨_, rfl⟩
     replace H : (spec_l20Ops.l0 k1 a1 y112 (wrap64 (a9 - 1)) s0_0 d3) = some (r1, r2) := by first | (rw [hy112]; with_reducible exact H) | (have H2_ := (Option.bind_some _ _).symm.trans H; rw [hy112]; with_reducible exact H2_) | (have H2_ := (Option.bind_some _ _).symm.trans H; with_reducible exact H2_) | with_reducible exact H | (rw [hy112]; exact H) | exact H
     have Ny112 := yaa hy112; clear hy112; have H' := yaa H; clear H
     go_wp2_with (first | ((with_reducible refine gc_ 44 rfl ?_); refine gl_ (some 16) rfl Tryz.func44 #[.pointer (some ⟨g, 0, none⟩), .int .i64 0] ?_; (with_reducible refine (spec_l20Op.calls k1 g s0_0 a5 0 b2 b3 b4 b5 b6 d3 w0 _ ?side1 ?side2 A8.out).mono ?_); (case side1 => repeat (with_reducible first | exact HI0.out | apply yad | apply yae | apply yag | apply yaf)); (case side2 => repeat (with_reducible first | exact HB.out | apply yaj | apply yac | apply yak | refine yam ?_ (IsS77.ge HI0.out))); rintro e w10 ⟨rfl, hi, hb, hk⟩; refine ⟨_, rfl, ?_⟩; replace a3 := yaa (Kd.R_mono (Kd.R_keep (IsS77.apart (show IsS77 w0 _ g s0_0 a5 from by repeat (with_reducible first | exact HI0.out | apply yad | apply yae | apply yag | apply yaf)) (upR a3.out) (by decide)) hk (fun _ h => h.2)) (fun _ h => h.1)); replace HK := yaa (yan (by repeat (with_reducible first | exact HK.out | apply yab | apply yah | apply yal | apply yai)) hk (.inl rfl)); replace HB := yaa (hb); replace HI0 := yaa (hi); (try clear hb hk hi)) | ((with_reducible refine gate_builtin (b := .append) (xs := #[.tmp 14, .tmp 17]) rfl ?_); at_builtin; refine Kd.R_append k65 w.heap.size rfl (.tmp 14) (.tmp 17) 23 65 (.agg #[(.int .i64 0), (.int .i64 0), (.int .i64 0), (.int .i64 0), (.int .i64 0)]) 40 rfl Tryz.underlying23 info65 rfl (by decide) (by omega) u5 a7 (⟨b2, b3, b4, b5, b6⟩ : S65) [.int .i64 b2, .int .i64 b3, .int .i64 b4, .int .i64 b5, .int .i64 b6] (fun _ => True) (fun _ => False) rfl rfl ?aP (fun _ hk => hk.elim) ?aF ?aO (Below.refl _ _) ?aS ?aL ?_; (case aP => exact k65_mkM _ _ _ (⟨b2, b3, b4, b5, b6⟩ : S65)); (case aF => exact (fun _ _ => trivial)); (case aO => exact (upR a3.out)); (case aS => exact (keep_size (w := w) (g := g) (row := none) (by repeat (with_reducible first | exact HK.out | apply yab | apply yah | apply yal | apply yai)))); (case aL => have := LMc9.out; omega); intro e6 w11 ho hb hg hat; rw [← Ny112.out] at ho; replace HB := yaa (below_weaken (by repeat (with_reducible first | exact HB.out | apply yaj | apply yac | apply yak | refine yam ?_ (IsS77.ge HI0.out))) HL.out hb); replace HI0 := yaa (IsS77.grown (by repeat (with_reducible first | exact HI0.out | apply yad | apply yae | apply yag | apply yaf)) hg (IsS77.own_ne HI0.out a3.out (by decide))); replace HK := yaa (yan (by repeat (with_reducible first | exact HK.out | apply yab | apply yah | apply yal | apply yai)) (KeepBut.of_grown hg g) (Kd.R_base2 a3.out)); have c8 := yaa (ho); clear a3; clear ho hb hg hat))
     go_roundg k1
     case measure => have := HK1.out; omega
     case rel => exact ⟨(y112), (wrap64 (a9 - 1)), (d3), (by first | rfl | (simp; done) | (simp [*]; done)), H', ⟨by have := HK1.out; omega⟩, ⟨by first | exact c8.out | exact upR c8.out⟩, ⟨by repeat (with_reducible first | exact HI0.out | apply yad | apply yae | apply yag | apply yaf)⟩, ⟨by repeat (with_reducible first | exact HK.out | apply yab | apply yah | apply yal | apply yai)⟩, ⟨by repeat (with_reducible first | exact HB.out | apply yaj | apply yac | apply yak | refine yam ?_ (IsS77.ge HI0.out))⟩⟩
    rw [if_neg c9] at H
    exact absurd H (by simp)
   rw [if_neg c7] at H
   have d2 : decide (0 < a9) = false := decide_eq_false c7; clear c7; obtain ⟨⟨d7, c6⟩, A12, H⟩ := bindA H; (try dsimp only at H); have HC13 := yaa H; clear H
   go_upto_if 21 with (first | ((with_reducible refine gc_ 43 rfl ?_); refine gl_ (some 21) rfl Tryz.func43 #[.pointer (some ⟨g, 0, none⟩), .int .i64 a1] ?_; (with_reducible refine (spec_l20Rd_odd.calls k1 g s0_0 a5 a1 d7 c6 w0 _ ?side1 ?side2 A12.out).mono ?_); (case side1 => repeat (with_reducible first | exact HI0.out | apply yad | apply yae | apply yag | apply yaf)); (case side2 => repeat (with_reducible first | exact HB.out | apply yaj | apply yac | apply yak | refine yam ?_ (IsS77.ge HI0.out))); rintro e w14 ⟨rfl, hi, hb, hk⟩; refine ⟨_, rfl, ?_⟩; replace a3 := yaa (Kd.R_mono (Kd.R_keep (IsS77.apart (show IsS77 w0 _ g s0_0 a5 from by repeat (with_reducible first | exact HI0.out | apply yad | apply yae | apply yag | apply yaf)) (upR a3.out) (by decide)) hk (fun _ h => h.2)) (fun _ h => h.1)); replace HK := yaa (yan (by repeat (with_reducible first | exact HK.out | apply yab | apply yah | apply yal | apply yai)) hk (.inl rfl)); replace HB := yaa (hb); replace HI0 := yaa (hi); (try clear hb hk hi)))
   (try simp only [Act.put, List.setIfInBounds_toArray, List.set_cons_zero, List.set_cons_succ])
   go_cut [5] (fun v5 wc => ∃ (kq : Nat) (b1 : List (S65)) (a4 : Int), Aside0 (spec_l20Ops.j1 kq a1 b1 s0_0 a4 = some (r1, r2)) ∧ Aside0 (kq ≤ k1) ∧ Aside0 (Kd.R k65 65 wc w.heap.size (fun _ => True) v5 b1) ∧ Aside0 (IsS77 w0 wc g s0_0 a4) ∧ Aside0 (KeepBut w wc g none) ∧ Aside0 (Below w0.heap.size w0 wc))
   case first =>
    have H := HC13.out; clear HC13
    by_cases c15 : d7 = true
    ·
     subst c15
     rw [if_pos rfl] at H
     obtain ⟨⟨b7, b8, b9, c0, c3, d4⟩, A16, H⟩ := bindA H; (try dsimp only at H)
     by_cases c17 : a7.length < 3518437208883
     ·
      rw [if_pos c17] at H
      have LMc17 := yaa c17; clear c17; obtain ⟨y123, hy123⟩ : ∃ y_ : List (S65), y_ = (a7 ++ [(⟨b7, b8, b9, c0, c3⟩ : S65)]) := ⟨_, rfl⟩
      replace H : (spec_l20Ops.j1 k1 a1 y123 s0_0 d4) = some (r1, r2) := by first | (rw [hy123]; with_reducible exact H) | (have H2_ := (Option.bind_some _ _).symm.trans H; rw [hy123]; with_reducible exact H2_) | (have H2_ := (Option.bind_some _ _).symm.trans H; with_reducible exact H2_) | with_reducible exact H | (rw [hy123]; exact H) | exact H
      have Ny123 := yaa hy123; clear hy123; have H' := yaa H; clear H
      go_wp2_with (first | ((with_reducible refine gc_ 44 rfl ?_); refine gl_ (some 24) rfl Tryz.func44 #[.pointer (some ⟨g, 0, none⟩), .int .i64 1] ?_; (with_reducible refine (spec_l20Op.calls k1 g s0_0 c6 1 b7 b8 b9 c0 c3 d4 w0 _ ?side1 ?side2 A16.out).mono ?_); (case side1 => repeat (with_reducible first | exact HI0.out | apply yad | apply yae | apply yag | apply yaf)); (case side2 => repeat (with_reducible first | exact HB.out | apply yaj | apply yac | apply yak | refine yam ?_ (IsS77.ge HI0.out))); rintro e w18 ⟨rfl, hi, hb, hk⟩; refine ⟨_, rfl, ?_⟩; replace a3 := yaa (Kd.R_mono (Kd.R_keep (IsS77.apart (show IsS77 w0 _ g s0_0 c6 from by repeat (with_reducible first | exact HI0.out | apply yad | apply yae | apply yag | apply yaf)) (upR a3.out) (by decide)) hk (fun _ h => h.2)) (fun _ h => h.1)); replace HK := yaa (yan (by repeat (with_reducible first | exact HK.out | apply yab | apply yah | apply yal | apply yai)) hk (.inl rfl)); replace HB := yaa (hb); replace HI0 := yaa (hi); (try clear hb hk hi)) | ((with_reducible refine gate_builtin (b := .append) (xs := #[.tmp 22, .tmp 25]) rfl ?_); at_builtin; refine Kd.R_append k65 w.heap.size rfl (.tmp 22) (.tmp 25) 23 65 (.agg #[(.int .i64 0), (.int .i64 0), (.int .i64 0), (.int .i64 0), (.int .i64 0)]) 40 rfl Tryz.underlying23 info65 rfl (by decide) (by omega) u5 a7 (⟨b7, b8, b9, c0, c3⟩ : S65) [.int .i64 b7, .int .i64 b8, .int .i64 b9, .int .i64 c0, .int .i64 c3] (fun _ => True) (fun _ => False) rfl rfl ?aP (fun _ hk => hk.elim) ?aF ?aO (Below.refl _ _) ?aS ?aL ?_; (case aP => exact k65_mkM _ _ _ (⟨b7, b8, b9, c0, c3⟩ : S65)); (case aF => exact (fun _ _ => trivial)); (case aO => exact (upR a3.out)); (case aS => exact (keep_size (w := w) (g := g) (row := none) (by repeat (with_reducible first | exact HK.out | apply yab | apply yah | apply yal | apply yai)))); (case aL => have := LMc17.out; omega); intro e7 w19 ho hb hg hat; rw [← Ny123.out] at ho; replace HB := yaa (below_weaken (by repeat (with_reducible first | exact HB.out | apply yaj | apply yac | apply yak | refine yam ?_ (IsS77.ge HI0.out))) HL.out hb); replace HI0 := yaa (IsS77.grown (by repeat (with_reducible first | exact HI0.out | apply yad | apply yae | apply yag | apply yaf)) hg (IsS77.own_ne HI0.out a3.out (by decide))); replace HK := yaa (yan (by repeat (with_reducible first | exact HK.out | apply yab | apply yah | apply yal | apply yai)) (KeepBut.of_grown hg g) (Kd.R_base2 a3.out)); have d0 := yaa (ho); clear a3; clear ho hb hg hat))
      go_meet
      case rel => exact ⟨_, (y123), (d4), H', ⟨by have := HK1.out; first | omega | exact Nat.le_refl _⟩, ⟨by first | exact d0.out | exact upR d0.out⟩, ⟨by repeat (with_reducible first | exact HI0.out | apply yad | apply yae | apply yag | apply yaf)⟩, ⟨by repeat (with_reducible first | exact HK.out | apply yab | apply yah | apply yal | apply yai)⟩, ⟨by repeat (with_reducible first | exact HB.out | apply yaj | apply yac | apply yak | refine yam ?_ (IsS77.ge HI0.out))⟩⟩
     rw [if_neg c17] at H
     exact absurd H (by simp)
    replace c15 := Bool.eq_false_iff.mpr c15
    subst c15
    rw [if_neg (show ¬ (false = true) by decide)] at H
    have H' := yaa H; clear H
    go_wp2
    go_meet
    case rel => exact ⟨_, (a7), (c6), H', ⟨by have := HK1.out; first | omega | exact Nat.le_refl _⟩, ⟨by first | exact a3.out | exact upR a3.out⟩, ⟨by repeat (with_reducible first | exact HI0.out | apply yad | apply yae | apply yag | apply yaf)⟩, ⟨by repeat (with_reducible first | exact HK.out | apply yab | apply yah | apply yal | apply yai)⟩, ⟨by repeat (with_reducible first | exact HB.out | apply yaj | apply yac | apply yak | refine yam ?_ (IsS77.ge HI0.out))⟩⟩
   case rest =>
    clear HC13; (try clear c1); (try clear c2); (try clear p2); (try clear c4); (try clear p6); (try clear c7); (try clear d2); (try clear c9); (try clear c15); (try clear c17); (try clear p2); obtain ⟨kq, b1, a4, HA, HJ12, a3, HI0, HK, HB⟩ := hcut
    cases kq with
    | zero => exact absurd HA.out (by simp [spec_l20Ops.j1])
    | succ kj12 =>
     have H := HA.out; clear HA
     simp only [spec_l20Ops.j1] at H
     obtain ⟨⟨e0, c5⟩, A20, H⟩ := bindA H; (try dsimp only at H)
     by_cases c21 : e0 = true
     rotate_left
     ·
      replace c21 := Bool.eq_false_iff.mpr c21
      subst c21
      rw [if_neg (show ¬ (false = true) by decide)] at H
      simp only [Option.some.injEq, Prod.mk.injEq] at H
      obtain ⟨rfl, rfl⟩ := H
      go_wp2_with (first | ((with_reducible refine gc_ 43 rfl ?_); refine gl_ (some 29) rfl Tryz.func43 #[.pointer (some ⟨g, 0, none⟩), .int .i64 a1] ?_; (with_reducible refine (spec_l20Rd_odd.calls kj12 g s0_0 a4 a1 false c5 w0 _ ?side1 ?side2 A20.out).mono ?_); (case side1 => repeat (with_reducible first | exact HI0.out | apply yad | apply yae | apply yag | apply yaf)); (case side2 => repeat (with_reducible first | exact HB.out | apply yaj | apply yac | apply yak | refine yam ?_ (IsS77.ge HI0.out))); rintro e w28 ⟨rfl, hi, hb, hk⟩; refine ⟨_, rfl, ?_⟩; replace a3 := yaa (Kd.R_mono (Kd.R_keep (IsS77.apart (show IsS77 w0 _ g s0_0 a4 from by repeat (with_reducible first | exact HI0.out | apply yad | apply yae | apply yag | apply yaf)) (upR a3.out) (by decide)) hk (fun _ h => h.2)) (fun _ h => h.1)); replace HK := yaa (yan (by repeat (with_reducible first | exact HK.out | apply yab | apply yah | apply yal | apply yai)) hk (.inl rfl)); replace HB := yaa (hb); replace HI0 := yaa (hi); (try clear hb hk hi)))
      go_ret
      exact ⟨_, by first | rfl | (simp [*, errW_none, errW_some] <;> rfl), by first | exact a3.out | exact upR a3.out, by repeat (with_reducible first | exact HI0.out | apply yad | apply yae | apply yag | apply yaf), by repeat (with_reducible first | exact HB.out | apply yaj | apply yac | apply yak | refine yam ?_ (IsS77.ge HI0.out)), by repeat (with_reducible first | exact HK.out | apply yab | apply yah | apply yal | apply yai)⟩
     subst c21
     rw [if_pos rfl] at H
     have H' := yaa H; clear H
     go_wp2_with (first | ((with_reducible refine gc_ 43 rfl ?_); refine gl_ (some 29) rfl Tryz.func43 #[.pointer (some ⟨g, 0, none⟩), .int .i64 a1] ?_; (with_reducible refine (spec_l20Rd_odd.calls kj12 g s0_0 a4 a1 true c5 w0 _ ?side1 ?side2 A20.out).mono ?_); (case side1 => repeat (with_reducible first | exact HI0.out | apply yad | apply yae | apply yag | apply yaf)); (case side2 => repeat (with_reducible first | exact HB.out | apply yaj | apply yac | apply yak | refine yam ?_ (IsS77.ge HI0.out))); rintro e w22 ⟨rfl, hi, hb, hk⟩; refine ⟨_, rfl, ?_⟩; replace a3 := yaa (Kd.R_mono (Kd.R_keep (IsS77.apart (show IsS77 w0 _ g s0_0 a4 from by repeat (with_reducible first | exact HI0.out | apply yad | apply yae | apply yag | apply yaf)) (upR a3.out) (by decide)) hk (fun _ h => h.2)) (fun _ h => h.1)); replace HK := yaa (yan (by repeat (with_reducible first | exact HK.out | apply yab | apply yah | apply yal | apply yai)) hk (.inl rfl)); replace HB := yaa (hb); replace HI0 := yaa (hi); (try clear hb hk hi)))
     (try simp only [Act.put, List.setIfInBounds_toArray, List.set_cons_zero, List.set_cons_succ])
     go_loopg [5] kj12 (fun kq v5 w' => ∃ (a6 : List (S65)), Aside0 (spec_l20Ops.l1 kq a6 s0_0 c5 = some (r1, r2)) ∧ Aside0 (kq ≤ kj12) ∧ Aside0 (Kd.R k65 65 w' w.heap.size (fun _ => True) v5 a6) ∧ Aside0 (IsS77 w0 w' g s0_0 c5) ∧ Aside0 (KeepBut w w' g none) ∧ Aside0 (Below w0.heap.size w0 w'))
     case atStart => exact ⟨(b1), H', ⟨Nat.le_refl _⟩, ⟨by first | exact a3.out | exact upR a3.out⟩, ⟨by repeat (with_reducible first | exact HI0.out | apply yad | apply yae | apply yag | apply yaf)⟩, ⟨by repeat (with_reducible first | exact HK.out | apply yab | apply yah | apply yal | apply yai)⟩, ⟨by repeat (with_reducible first | exact HB.out | apply yaj | apply yac | apply yak | refine yam ?_ (IsS77.ge HI0.out))⟩⟩
     case round =>
      clear H'; (try clear c1); (try clear c2); (try clear p2); (try clear c4); (try clear p6); (try clear c7); (try clear d2); (try clear c9); (try clear c15); (try clear c17); (try clear c21); (try clear p2); (try clear p6); obtain ⟨a6, HA, HK3, a3, HI0, HK, HB⟩ := hrel
      cases gk with
      | zero => exact absurd HA.out (by simp [spec_l20Ops.l1])
      | succ k3 =>
       have H := HA.out; clear HA
       simp only [spec_l20Ops.l1] at H
       by_cases c23 : (a6.length : Int) ≤ 5
       ·
        rw [if_pos c23] at H
        have d8 : decide ((a6.length : Int) ≤ 5) = true := decide_eq_true c23; have d9 : decide (a6.length ≤ 5) = true := decide_eq_true (by omega); clear c23
        by_cases c24 : a6.length < 3518437208883
        ·
         rw [if_pos c24] at H
         have LMc24 := yaa c24; clear c24; obtain ⟨y128, hy128⟩ : ∃ y_ : List (S65), y_ = (a6 ++ [(⟨4, 0, 0, 0, 0⟩ : S65)]) := ⟨_, rfl⟩
         replace H : (spec_l20Ops.l1 k3 y128 s0_0 c5) = some (r1, r2) := by first | (rw [hy128]; with_reducible exact H) | (have H2_ := (Option.bind_some _ _).symm.trans H; rw [hy128]; with_reducible exact H2_) | (have H2_ := (Option.bind_some _ _).symm.trans H; with_reducible exact H2_) | with_reducible exact H | (rw [hy128]; exact H) | exact H
         have Ny128 := yaa hy128; clear hy128; have H' := yaa H; clear H; obtain ⟨e1, e2, e3⟩ := Kd.R_slice a3.out; subst e3
         go_wp2_with (first | ((with_reducible refine gate_builtin (b := .append) (xs := #[.tmp 33, .tmp 35]) rfl ?_); at_builtin; refine Kd.R_append k65 w.heap.size rfl (.tmp 33) (.tmp 35) 23 65 (.agg #[(.int .i64 0), (.int .i64 0), (.int .i64 0), (.int .i64 0), (.int .i64 0)]) 40 rfl Tryz.underlying23 info65 rfl (by decide) (by omega) (.slice e1 a6.length e2) a6 (⟨4, 0, 0, 0, 0⟩ : S65) [.int .i64 4, .int .i64 0, .int .i64 0, .int .i64 0, .int .i64 0] (fun _ => True) (fun _ => False) rfl rfl ?aP (fun _ hk => hk.elim) ?aF ?aO (Below.refl _ _) ?aS ?aL ?_; (case aP => exact k65_mkM _ _ _ (⟨4, 0, 0, 0, 0⟩ : S65)); (case aF => exact (fun _ _ => trivial)); (case aO => exact (upR a3.out)); (case aS => exact (keep_size (w := w) (g := g) (row := none) (by repeat (with_reducible first | exact HK.out | apply yab | apply yah | apply yal | apply yai)))); (case aL => have := LMc24.out; omega); intro e8 w26 ho hb hg hat; rw [← Ny128.out] at ho; replace HB := yaa (below_weaken (by repeat (with_reducible first | exact HB.out | apply yaj | apply yac | apply yak | refine yam ?_ (IsS77.ge HI0.out))) HL.out hb); replace HI0 := yaa (IsS77.grown (by repeat (with_reducible first | exact HI0.out | apply yad | apply yae | apply yag | apply yaf)) hg (IsS77.own_ne HI0.out a3.out (by decide))); replace HK := yaa (yan (by repeat (with_reducible first | exact HK.out | apply yab | apply yah | apply yal | apply yai)) (KeepBut.of_grown hg g) (Kd.R_base2 a3.out)); have d1 := yaa (ho); clear a3; clear ho hb hg hat))
         go_roundg k3
         case measure => have := HK1.out; have := HJ12.out; have := HK3.out; omega
         case rel => exact ⟨(y128), H', ⟨by have := HK1.out; have := HJ12.out; have := HK3.out; omega⟩, ⟨by first | exact d1.out | exact upR d1.out⟩, ⟨by repeat (with_reducible first | exact HI0.out | apply yad | apply yae | apply yag | apply yaf)⟩, ⟨by repeat (with_reducible first | exact HK.out | apply yab | apply yah | apply yal | apply yai)⟩, ⟨by repeat (with_reducible first | exact HB.out | apply yaj | apply yac | apply yak | refine yam ?_ (IsS77.ge HI0.out))⟩⟩
        rw [if_neg c24] at H
        exact absurd H (by simp)
       rw [if_neg c23] at H
       have d8 : decide ((a6.length : Int) ≤ 5) = false := decide_eq_false c23; have d9 : decide (a6.length ≤ 5) = false := decide_eq_false (by omega); clear c23
       simp only [Option.some.injEq, Prod.mk.injEq] at H
       obtain ⟨rfl, rfl⟩ := H; obtain ⟨e9, f0, e4⟩ := Kd.R_slice a3.out; subst e4
       go_wp2
       go_ret
       exact ⟨_, by first | rfl | (simp [*, errW_none, errW_some] <;> rfl), by first | exact a3.out | exact upR a3.out, by repeat (with_reducible first | exact HI0.out | apply yad | apply yae | apply yag | apply yaf), by repeat (with_reducible first | exact HB.out | apply yaj | apply yac | apply yak | refine yam ?_ (IsS77.ge HI0.out)), by repeat (with_reducible first | exact HK.out | apply yab | apply yah | apply yal | apply yai)⟩
end
section
def spec_l20Path.f (k : Nat) (s0_0 : List Int) (s0_1 : Int) : Option (ByteArray × Int) := (some (([(⟨#[97]⟩ : ByteArray), (⟨#[98]⟩ : ByteArray), (⟨#[99, 97, 116]⟩ : ByteArray), (⟨#[100, 48, 103]⟩ : ByteArray), (⟨#[97, 98, 99, 100, 101, 102]⟩ : ByteArray)] : List ByteArray) : List ByteArray)).bind fun y101 => ((spec_l20Rd_pick.f k s0_0 s0_1 5).bind fun bt104 => (if 0 ≤ bt104.1 then (if bt104.1 < (y101.length : Int) then (some (rdOf ByteArray.empty y101 bt104.1, bt104.2)) else (none)) else (none)))
set_option maxHeartbeats 8000000 in
set_option maxRecDepth 100000 in
theorem spec_l20Path.calls (k : Nat) (g : Nat) (s0_0 : List Int) (s0_1 : Int) (r1 : ByteArray) (r2 : Int) (w0 w : World) (hI : IsS77 w0 w g s0_0 s0_1) (hB : Below w0.heap.size w0 w) (h : spec_l20Path.f k s0_0 s0_1 = some (r1, r2)) :
  Calls Tryz.prog 42 #[.pointer (some ⟨g, 0, none⟩)] w fun e w' => e = .returned (.string r1) ∧ IsS77 w0 w' g s0_0 r2 ∧ Below w0.heap.size w0 w' ∧ KeepBut w w' g none := by
 have HI0 := Aside0.mk hI; have HK := Aside0.mk (KeepBut.refl w g none); have HL := Aside0.mk hB.size; clear hI; have HW0 := Aside0.mk hB.size; have HB := Aside0.mk hB; clear hB; have H : ((some (([(⟨#[97]⟩ : ByteArray), (⟨#[98]⟩ : ByteArray), (⟨#[99, 97, 116]⟩ : ByteArray), (⟨#[100, 48, 103]⟩ : ByteArray), (⟨#[97, 98, 99, 100, 101, 102]⟩ : ByteArray)] : List ByteArray) : List ByteArray)).bind fun y101 => ((spec_l20Rd_pick.f k s0_0 s0_1 5).bind fun a2 => (if 0 ≤ a2.1 then (if a2.1 < (y101.length : Int) then (some (rdOf ByteArray.empty y101 a2.1, a2.2)) else (none)) else (none)))) = some (r1, r2) := h; clear h; obtain ⟨y101, hy101, H⟩ := bindY H; (try dsimp only at H); have Ny101 := Aside0.mk hy101; clear hy101; obtain ⟨⟨a4, a6⟩, A2, H⟩ := bindA H; (try dsimp only at H)
 by_cases c3 : 0 ≤ a4
 ·
  rw [if_pos c3] at H
  replace c3 := decide_eq_true c3
  by_cases c4 : a4 < (y101.length : Int)
  ·
   rw [if_pos c4] at H
   replace c4 := decide_eq_true c4
   simp only [Option.some.injEq, Prod.mk.injEq] at H
   obtain ⟨rfl, rfl⟩ := H
   go_enter Tryz.func42, Tryz.ntmps42
   go_wp2_with (first | ((with_reducible refine gd_ 3 rfl ?_); refine Kd.R_lit Kd.string _ 9 ?hg (N := 3) ?hd (xs := ([(⟨#[97]⟩ : ByteArray), (⟨#[98]⟩ : ByteArray), (⟨#[99, 97, 116]⟩ : ByteArray), (⟨#[100, 48, 103]⟩ : ByteArray), (⟨#[97, 98, 99, 100, 101, 102]⟩ : ByteArray)] : List ByteArray)) (inner := [.string (⟨#[97]⟩ : ByteArray), .string (⟨#[98]⟩ : ByteArray), .string (⟨#[99, 97, 116]⟩ : ByteArray), .string (⟨#[100, 48, 103]⟩ : ByteArray), .string (⟨#[97, 98, 99, 100, 101, 102]⟩ : ByteArray)]) (ok := fun _ => True) (okp := fun _ => True) ?hr ?hp (fun _ hk => hk) trivial (Below.refl _ _) (Nat.le_refl _) (by simp) ?_; (case hd => rfl); (case hg => rfl); (case hr => first | (go_simp; done) | (go_simp; rfl)); (case hp => exact (Reps.one (show Kd.M Kd.string _ _ _ (⟨#[97]⟩ : ByteArray) [.string (⟨#[97]⟩ : ByteArray)] from rfl) (Reps.one (show Kd.M Kd.string _ _ _ (⟨#[98]⟩ : ByteArray) [.string (⟨#[98]⟩ : ByteArray)] from rfl) (Reps.one (show Kd.M Kd.string _ _ _ (⟨#[99, 97, 116]⟩ : ByteArray) [.string (⟨#[99, 97, 116]⟩ : ByteArray)] from rfl) (Reps.one (show Kd.M Kd.string _ _ _ (⟨#[100, 48, 103]⟩ : ByteArray) [.string (⟨#[100, 48, 103]⟩ : ByteArray)] from rfl) (Reps.one (show Kd.M Kd.string _ _ _ (⟨#[97, 98, 99, 100, 101, 102]⟩ : ByteArray) [.string (⟨#[97, 98, 99, 100, 101, 102]⟩ : ByteArray)] from rfl) (Reps.none _ _))))))); intro a8 w5 ho6 hb hg_ hnew_; clear hg_ hnew_; (first | rw [← Ny101.out] at ho6 | (simp only [Int.reduceToNat] at ho6; rw [← Ny101.out] at ho6)); have a3 := Aside0.mk (Kd.R_lower ho6 (keep_size (w := w) (g := g) (row := none) (by repeat (with_reducible first | exact HK.out | apply KeepBut.set_ | apply keep_drewN | apply keep_drew | apply keep_alloc)))); replace HK := Aside0.mk (KeepBut.trans (by repeat (with_reducible first | exact HK.out | apply KeepBut.set_ | apply keep_drewN | apply keep_drew | apply keep_alloc)) (KeepBut.of_below hb g none) (.inl rfl)); replace HB := Aside0.mk (below_step (by repeat (with_reducible first | exact HB.out | apply below_alloc | apply pw_below_drewN | apply below_drew1 | refine below_set ?_ (IsS77.ge HI0.out))) hb); replace HI0 := Aside0.mk (IsS77.below (by repeat (with_reducible first | exact HI0.out | apply IsS77.alloc | apply IsS77.drewN | apply IsS77.drew | apply IsS77.set_1)) hb); clear hb ho6) | ((with_reducible refine gc_ 27 rfl ?_); refine gl_ (some 5) rfl Tryz.func27 #[.pointer (some ⟨g, 0, none⟩), .int .i64 5] ?_; (with_reducible refine (spec_l20Rd_pick.calls k g s0_0 s0_1 5 a4 a6 w0 _ ?side1 ?side2 A2.out).mono ?_); (case side1 => repeat (with_reducible first | exact HI0.out | apply IsS77.alloc | apply IsS77.drewN | apply IsS77.drew | apply IsS77.set_1)); (case side2 => repeat (with_reducible first | exact HB.out | apply below_alloc | apply pw_below_drewN | apply below_drew1 | refine below_set ?_ (IsS77.ge HI0.out))); rintro e w7 ⟨rfl, hi, hb, hk⟩; refine ⟨_, rfl, ?_⟩; replace a3 := Aside0.mk (Kd.R_mono (Kd.R_keep (IsS77.apart (show IsS77 w0 _ g s0_0 s0_1 from by repeat (with_reducible first | exact HI0.out | apply IsS77.alloc | apply IsS77.drewN | apply IsS77.drew | apply IsS77.set_1)) (upR a3.out) (by decide)) hk (fun _ h => h.2)) (fun _ h => h.1)); replace HK := Aside0.mk (KeepBut.trans (by repeat (with_reducible first | exact HK.out | apply KeepBut.set_ | apply keep_drewN | apply keep_drew | apply keep_alloc)) hk (.inl rfl)); replace HB := Aside0.mk (hb); replace HI0 := Aside0.mk (hi); (try clear hb hk hi); obtain ⟨Ao8, co8, eo8⟩ := Kd.R_slice a3.out; subst eo8; have p106 : 0 ≤ (a4 : Int) := of_decide_eq_true (by assumption); have q106 : a4 < (y101.length : Int) := of_decide_eq_true (by assumption); obtain ⟨ad106, a7, a5⟩ := Kd.at_string (Kd.R_reads' a3.out).2.2 a4 p106 q106; cases a7; replace p106 := eq_true p106; replace q106 := eq_true q106))
   go_ret
   exact ⟨by first | rfl | (simp [*, errW_none, errW_some] <;> rfl), by repeat (with_reducible first | exact HI0.out | apply IsS77.alloc | apply IsS77.drewN | apply IsS77.drew | apply IsS77.set_1), by repeat (with_reducible first | exact HB.out | apply below_alloc | apply pw_below_drewN | apply below_drew1 | refine below_set ?_ (IsS77.ge HI0.out)), by repeat (with_reducible first | exact HK.out | apply KeepBut.set_ | apply keep_drewN | apply keep_drew | apply keep_alloc)⟩
  rw [if_neg c4] at H
  exact absurd H (by simp)
 rw [if_neg c3] at H
 exact absurd H (by simp)
end
end Go.Proofs.YtmplnpjdbfedbaaGreatDoor.X
