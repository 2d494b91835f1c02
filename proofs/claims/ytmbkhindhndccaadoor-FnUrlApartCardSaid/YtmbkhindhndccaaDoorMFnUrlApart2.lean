/- Lemmas and contracts for the law FnUrlApart, part 2: of the program's functions, and over data alone. Conditions: the listed package-level variables begin as the program's text lays them (tied by the card). -/
import Derived.Test.YtmbkhindhndccaaDoorMFnUrlApart1
import Derived.Test.YtmbkhindhndccaaDoorProg
import Derived.Below
import Derived.Deep.Draws
import Derived.Deep.AppendLies
import Derived.Maps.AppendAt
import Derived.OwnWalk
import Derived.Laws.BytesArg
import Derived.Laws.MakeOwn
import Derived.Laws.OwnMore
import Derived.Deep.OwnRows
import Derived.Tactics
import Derived.Lib.ConvBytes
import Derived.Laws.Slices
import Derived.WalkKit
import Derived.KernelRfl
import Derived.RowKit3
import Derived.Deep.LoopGhost
import Derived.Deep.QuietTactic
import Derived.BigQuiet
import Derived.WideLaws
import Derived.Deep.DeepCutAuto
import Derived.Deep.CutBlock
import Derived.Deep.RegionHeld3
import Derived.Laws.Rows
import Derived.Lib.AppendStr
import Derived.ArgAppend
import Derived.Laws.IdiomCopy
import Derived.OrdersHeld
import Derived.Laws.BitsLemmas
import Derived.RowKit
namespace Go.Proofs.YtmbkhindhndccaaDoorW.PrintLast
open Go.RowKit Go.Proofs.YtmbkhindhndccaaDoorW.PrintWords
variable {P : Program} {ops : Array Oper} {Q : Exit → Act → World → Prop} {S : World → Prop} {ds : List Nat}
/-- An operation that yields in every world. -/
theorem pz_ {T : Bool × List (List Nat × List Nat)} {oi : Oper} {v : Value} {fuel : Nat} {l : Array Bool} {a : Act} {w : World} (i d : Nat) (l' : Array Bool) (hT : Aside0 (rtab .any ops = T)) (hc : anyT T l.toList l'.toList i = true) {a' : Act}
    (h : wpAnyLast P .any ops Q S ds fuel l' a' w)
    (hi : ops[i]? = some oi := by rfl) (hN : oi.dst = some d := by rfl) (hw : Region.wanted oi (yielded ops a.tmps) = true := by rfl)
    (hy : ∀ w', (execOp a.eval oi).run P w' = .ok (.value v) w' := by (intro w'; go_simp; with_reducible rfl))
    (ha : a.put (some d) v = a' := by (simp only [Act.put, List.setIfInBounds_toArray, List.set_cons_zero, List.set_cons_succ, i64_w, i32_w]; rfl))
    (hQ : ∀ c a w, Q (.panic c) (a.put oi.dst v) w → Q (.panic c) a w := by exact fun _ _ _ h => h) :
    wpAnyLast P .any ops Q S ds (fuel + 1) l a w :=
  pure_ l' hi hN (any_of hT.out hc) hQ (Or.inl ⟨hw, hy⟩) ha h
/-- An operation that reads what S says. -/
theorem tz_ {T : Bool × List (List Nat × List Nat)} {B : List Nat} {oi : Oper} {v : Value} {fuel : Nat} {l : Array Bool} {a : Act} {w : World} (i d : Nat) (l' : Array Bool) (hT : Aside0 (rtab .any ops = T)) (hB : Aside0 (waitsOk T.2 B = true)) (hc : takeW T B ds l.toList l'.toList i = true) (hS : S w) {a' : Act}
    (h : wpAnyLast P .any ops Q S ds fuel l' a' w)
    (hi : ops[i]? = some oi := by rfl) (hN : oi.dst = some d := by rfl) (hw : Region.wanted oi (yielded ops a.tmps) = true := by rfl)
    (hy : ∀ w', S w' → (execOp a.eval oi).run P w' = .ok (.value v) w' := by (intro w' hs; go_simp; with_reducible rfl))
    (ha : a.put (some d) v = a' := by (simp only [Act.put, List.setIfInBounds_toArray, List.set_cons_zero, List.set_cons_succ, i64_w, i32_w]; rfl))
    (hQ : ∀ c a w, Q (.panic c) (a.put oi.dst v) w → Q (.panic c) a w := by exact fun _ _ _ h => h) :
    wpAnyLast P .any ops Q S ds (fuel + 1) l a w :=
  take_ l' hi hN (take_ofW hT.out hB.out hc) hQ (Or.inl ⟨hw, hy⟩) hS ha h
/-! ### What is kept in a world that was made of another one by making blocks and by drawing -/
class UpW (w w' : World) : Prop where
  step : ∀ K : World → Prop, (∀ v O, K v → K (v.alloc O)) → (∀ v, K v → K v.drew) → (∀ v n, K v → K (v.drewN n)) → K w → K w'
instance upw_refl (w : World) : UpW w w := ⟨fun _ _ _ _ h => h⟩
instance upw_alloc (w w' : World) (O : Obj) [h : UpW w w'] : UpW w (w'.alloc O) := ⟨fun K a b c k => a _ _ (h.step K a b c k)⟩
instance upw_drew (w w' : World) [h : UpW w w'] : UpW w w'.drew := ⟨fun K a b c k => b _ (h.step K a b c k)⟩
instance upw_drewN (w w' : World) (n : Nat) [h : UpW w w'] : UpW w (w'.drewN n) := ⟨fun K a b c k => c _ _ (h.step K a b c k)⟩
theorem upB {w w' : World} {g : Nat} {o : Obj} (h : w.heap[g]? = some o) [u : UpW w w'] : w'.heap[g]? = some o := u.step (fun v => v.heap[g]? = some o) (fun _ O k => blk_alloc k O) (fun _ k => blk_drew k) (fun _ n k => blk_drewN k n) h
theorem upR {α : Type} {d : Kd α} {e base : Nat} {ok : Nat → Prop} {w w' : World} {v : Value} {xs : List α} (h : d.R e w base ok v xs) [u : UpW w w'] : d.R e w' base ok v xs := u.step (fun x => d.R e x base ok v xs) (fun _ O k => Kd.R_alloc k O) (fun _ k => Kd.R_drew k) (fun _ n k => Kd.R_drewN k n) h
theorem upH {w0 w w' : World} (h : Below w0.heap.size w0 w) [u : UpW w w'] : Below w0.heap.size w0 w' := u.step (fun x => Below w0.heap.size w0 x) (fun _ O k => below_alloc k O) (fun _ k => below_drew1 k) (fun _ n k => pw_below_drewN k n) h
/-- One world made of another by making a block or by drawing. -/
class OneW (w : outParam World) (w' : World) : Prop where
  up : UpW w w'
instance onew_alloc (w : World) (O : Obj) : OneW w (w.alloc O) := ⟨inferInstance⟩
instance onew_drew (w : World) : OneW w w.drew := ⟨inferInstance⟩
instance onew_drewN (w : World) (n : Nat) : OneW w (w.drewN n) := ⟨inferInstance⟩
theorem oneB {w w' : World} {g : Nat} {o : Obj} (h : w.heap[g]? = some o) [u : OneW w w'] : w'.heap[g]? = some o := @upB _ _ _ _ h u.up
/-! ### Cells of a block -/
section
variable {w : World} {g t : Nat} {a b c d e f i j k : Value}
theorem cc3_ (h : w.heap[g]? = some (.cells #[a, b, c] t (0, 0))) : w.cell? ⟨g, 0, none⟩ = some a ∧ w.cell? ⟨g, 1, none⟩ = some b ∧ w.cell? ⟨g, 2, none⟩ = some c := ⟨(blk_cell h 0).trans rfl, (blk_cell h 1).trans rfl, (blk_cell h 2).trans rfl⟩
theorem cc4_ (h : w.heap[g]? = some (.cells #[a, b, c, d] t (0, 0))) : w.cell? ⟨g, 0, none⟩ = some a ∧ w.cell? ⟨g, 1, none⟩ = some b ∧ w.cell? ⟨g, 2, none⟩ = some c ∧ w.cell? ⟨g, 3, none⟩ = some d := ⟨(blk_cell h 0).trans rfl, (blk_cell h 1).trans rfl, (blk_cell h 2).trans rfl, (blk_cell h 3).trans rfl⟩
theorem cc5_ (h : w.heap[g]? = some (.cells #[a, b, c, d, e] t (0, 0))) : w.cell? ⟨g, 0, none⟩ = some a ∧ w.cell? ⟨g, 1, none⟩ = some b ∧ w.cell? ⟨g, 2, none⟩ = some c ∧ w.cell? ⟨g, 3, none⟩ = some d ∧ w.cell? ⟨g, 4, none⟩ = some e := ⟨(blk_cell h 0).trans rfl, (blk_cell h 1).trans rfl, (blk_cell h 2).trans rfl, (blk_cell h 3).trans rfl, (blk_cell h 4).trans rfl⟩
variable {cs : Array Value}
theorem cf2_ (h : w.heap[g]? = some (.cells cs t (0, 0))) : w.frozen? ⟨g, 0, none⟩ = false ∧ w.frozen? ⟨g, 1, none⟩ = false := ⟨blk_frozen h 0, blk_frozen h 1⟩
theorem cf3_ (h : w.heap[g]? = some (.cells cs t (0, 0))) : w.frozen? ⟨g, 0, none⟩ = false ∧ w.frozen? ⟨g, 1, none⟩ = false ∧ w.frozen? ⟨g, 2, none⟩ = false := ⟨blk_frozen h 0, blk_frozen h 1, blk_frozen h 2⟩
theorem cf4_ (h : w.heap[g]? = some (.cells cs t (0, 0))) : w.frozen? ⟨g, 0, none⟩ = false ∧ w.frozen? ⟨g, 1, none⟩ = false ∧ w.frozen? ⟨g, 2, none⟩ = false ∧ w.frozen? ⟨g, 3, none⟩ = false := ⟨blk_frozen h 0, blk_frozen h 1, blk_frozen h 2, blk_frozen h 3⟩
theorem cf5_ (h : w.heap[g]? = some (.cells cs t (0, 0))) : w.frozen? ⟨g, 0, none⟩ = false ∧ w.frozen? ⟨g, 1, none⟩ = false ∧ w.frozen? ⟨g, 2, none⟩ = false ∧ w.frozen? ⟨g, 3, none⟩ = false ∧ w.frozen? ⟨g, 4, none⟩ = false := ⟨blk_frozen h 0, blk_frozen h 1, blk_frozen h 2, blk_frozen h 3, blk_frozen h 4⟩
end
theorem upc_ {w w' : World} {a : Addr} {v : Value} (hb : Below w.heap.size w w') (h : w.cell? a = some v) : w'.cell? a = some v := (hb.cell (World.block_lt_of_cell? w _ h)).trans h
/-- A step of what a function comes to. -/
theorem bindA {α β : Type} {x : Option α} {f : α → Option β} {r : β} (H : x.bind f = some r) : ∃ a, Aside0 (x = some a) ∧ f a = some r := by
  obtain ⟨a, h, k⟩ := Option.bind_eq_some_iff.mp H
  exact ⟨a, ⟨h⟩, k⟩
/-- n signs, off a number. -/
def bl_ (n m : Nat) : Array Bool := ((List.range n).map fun i => m.testBit i).toArray
theorem bindY {α β : Type} {L : α} {F : α → Option β} {r : Option β} (H : (some L).bind F = r) : ∃ y, y = L ∧ F y = r := ⟨L, rfl, H⟩
section
variable {P : Program} {ops : Array Oper} {rest : List Oper} {o : Oper} {a : Act} {Q : Exit → Act → World → Prop}
/-- A block is made. -/
theorem bx_ {W : World} (N : Tmp) (hd : o.dst = some N) (cs : Array Value) (t : TypeId)
    (h : ∀ g, g = W.heap.size → ∀ w1, w1.heap[g]? = some (.cells cs t (0, 0)) → Below W.heap.size W w1 → wpList P ops Q rest (a.put o.dst (.pointer (some ⟨g, 0, none⟩))) w1)
    (hg : o.guard = none := by first | rfl | (simp [Region.wanted, yielded, *]; done))
    (hr : (execOp a.eval o).run P W = .ok (.value (.pointer (some ⟨W.heap.size, 0, none⟩))) (W.alloc (.cells cs t (0, 0))) := by first | (go_simp; done) | (go_simp; rfl)) : wpList P ops Q (o :: rest) a W := box_event hg hd hr h
theorem gc_ (f : FuncId) {W : World} {as1 : Array Operand} {ts : Array TypeId} (_ho : o.op = .call { callee := .value (.func f), args := as1, argTypes := ts }) (h : wpList P ops Q (o :: rest) a W) : wpList P ops Q (o :: rest) a W := h
theorem gd_ (N : Tmp) {W : World} (_hN : o.dst = some N) (h : wpList P ops Q (o :: rest) a W) : wpList P ops Q (o :: rest) a W := h
/-- A call. -/
theorem gl_ {w : World} (N : Option Tmp) (hd : o.dst = N) {f : FuncId} {fn : Func} {aa : Array Operand} {ts : Array TypeId} (hf : P.funcs[f]? = some fn) (args : Array Value)
    (h : Calls P f args w fun e w' => ∃ v, e = .returned v ∧ wpList P ops Q rest (a.put N v) w') (hg : o.guard = none := by rfl) (hname : (fn.name == "runtime.NumGoroutine") = false := by kernel_rfl) (hb : fn.body.isSome = true := by rfl)
    (hop : o.op = .call { callee := .value (.func f), args := aa, argTypes := ts } := by rfl) (hargs : aa.map a.eval = args := by ((try simp only [List.map_toArray, List.map_cons, List.map_nil]); first | done | rfl | (simp only [List.length_drop, List.length_take]; rfl))) : wpList P ops Q (o :: rest) a w :=
  goesL_ N hd hg hf hname hb args hop hargs h
end
end Go.Proofs.YtmbkhindhndccaaDoorW.PrintLast
namespace Go.Proofs.YtmbkhindhndccaaDoor.X
open Go.RowKit Go.Proofs.YtmbkhindhndccaaDoorW.PrintWords Go.Proofs.YtmbkhindhndccaaDoorW.PrintLast Go.Proofs.YtmbkhindhndccaaDoorW.PrintMore
attribute [local go_sem] max2_int min2_int max_two min_two max_three min_three max_four min_four
set_option linter.unusedVariables false
set_option linter.unusedSimpArgs false

section
def errW : Option Int → Value
  | none => .nilIface
  | some c => .iface 0 (.int .i64 c)
theorem errW_none : errW none = .nilIface := rfl
theorem errW_some (c : Int) : errW (some c) = .iface 0 (.int .i64 c) := rfl

theorem info5 : (Tryd.prog.info? 5).map (fun i => (i.zero, i.size, i.bytes)) = some (some (.int .u8 0), 1, 1) := by kernel_rfl
theorem info9 : (Tryd.prog.info? 9).map (fun i => (i.zero, i.size, i.bytes)) = some (some (.string ⟨#[]⟩), 1, 16) := by kernel_rfl
theorem info59 : (Tryd.prog.info? 59).map (fun i => (i.zero, i.size, i.bytes)) = some (some (.agg #[(.int .i64 0), (.int .i64 0), (.int .i64 0), (.int .i64 0), (.int .i64 0)]), 5, 40) := by kernel_rfl
theorem info103 : (Tryd.prog.info? 103).map (fun i => (i.zero, i.size, i.bytes)) = some (some (.int .u64 0), 1, 8) := by kernel_rfl
-- the values' own types
/-! #### struct type 65 -/
structure S65 where
  f0 : Int
  f1 : Int
  f2 : Int
  f3 : Int
  f4 : Int

/-! #### struct type 59 -/
structure S59 where
  f0 : Int
  f1 : Int
  f2 : Int
  f3 : Int
  f4 : Int
def z59 : S59 := ⟨(0 : Int), (0 : Int), (0 : Int), (0 : Int), (0 : Int)⟩
def k59 : Kd S59 := Kd.iso (Kd.pair (Kd.int .i64) (Kd.pair (Kd.int .i64) (Kd.pair (Kd.int .i64) (Kd.pair (Kd.int .i64) (Kd.int .i64))))) (fun x : S59 => (x.f0, x.f1, x.f2, x.f3, x.f4))
theorem k59_open {w : World} {x : S59} {cs : List Value} (h : k59.K w x cs) : cs = [.int .i64 x.f0, .int .i64 x.f1, .int .i64 x.f2, .int .i64 x.f3, .int .i64 x.f4] := by
  obtain ⟨_, _, rfl, rfl, ⟨_, _, rfl, rfl, ⟨_, _, rfl, rfl, ⟨_, _, rfl, rfl, rfl⟩⟩⟩⟩ := h
  exact rfl
theorem k59_mkM (w : World) (base : Nat) (ok : Nat → Prop) (x : S59)  : k59.M w base ok x [.int .i64 x.f0, .int .i64 x.f1, .int .i64 x.f2, .int .i64 x.f3, .int .i64 x.f4] := ⟨[.int .i64 x.f0], [.int .i64 x.f1, .int .i64 x.f2, .int .i64 x.f3, .int .i64 x.f4], rfl, rfl, ⟨[.int .i64 x.f1], [.int .i64 x.f2, .int .i64 x.f3, .int .i64 x.f4], rfl, rfl, ⟨[.int .i64 x.f2], [.int .i64 x.f3, .int .i64 x.f4], rfl, rfl, ⟨[.int .i64 x.f3], [.int .i64 x.f4], rfl, rfl, rfl⟩⟩⟩⟩
def rd_T59 (xs : List S59) (i : Int) : S59 := xs.getD i.toNat z59
theorem at_T59 {w : World} {A : Option Addr} {n : Nat} {xs : List S59} (h : Kd.C k59 w A n xs) (i : Int) (h0 : 0 ≤ i) (h1 : i < n) : ∃ ad , A = some ad ∧ w.cell? (ad.add (i.toNat * 5)) = some (.int .i64 (rd_T59 xs i).f0) ∧ w.cell? ⟨(ad.add (i.toNat * 5)).block, (ad.add (i.toNat * 5)).off + 1, none⟩ = some (.int .i64 (rd_T59 xs i).f1) ∧ w.cell? ⟨(ad.add (i.toNat * 5)).block, (ad.add (i.toNat * 5)).off + 2, none⟩ = some (.int .i64 (rd_T59 xs i).f2) ∧ w.cell? ⟨(ad.add (i.toNat * 5)).block, (ad.add (i.toNat * 5)).off + 3, none⟩ = some (.int .i64 (rd_T59 xs i).f3) ∧ w.cell? ⟨(ad.add (i.toNat * 5)).block, (ad.add (i.toNat * 5)).off + 4, none⟩ = some (.int .i64 (rd_T59 xs i).f4) := by
  obtain ⟨ad, c, e, _, hK, hc0⟩ := Kd.C_get h z59 i h0 h1
  have hc : ∀ j u, c[j]? = some u → w.cell? (ad.add (i.toNat * 5 + j)) = some u := hc0
  obtain rfl := k59_open hK
  exact ⟨ad, e, hc 0 _ rfl, by rw [← add_field _ _ 1 (by omega)]; exact hc 1 _ rfl, by rw [← add_field _ _ 2 (by omega)]; exact hc 2 _ rfl, by rw [← add_field _ _ 3 (by omega)]; exact hc 3 _ rfl, by rw [← add_field _ _ 4 (by omega)]; exact hc 4 _ rfl⟩
end
section
def spec_l1In.f (a0 : Int) (a1 : Int) (a2 : Int) : Option (Bool) := if a0 ≥ a1 then (some (decide (a0 ≤ a2))) else (some false)
set_option maxHeartbeats 8000000 in
set_option maxRecDepth 100000 in
theorem spec_l1In.calls (a0 : Int) (a1 : Int) (a2 : Int) (r : Bool) (w : World) (h : spec_l1In.f a0 a1 a2 = some r) :
    Calls Tryd.prog 29 #[.int .i64 a0, .int .i64 a1, .int .i64 a2] w fun e w' => e = .returned (.bool r) ∧ Drawn0 w w' := by
  have H : (if a0 ≥ a1 then (some (decide (a0 ≤ a2))) else (some false)) = some r := h; clear h
  by_cases c4 : a0 ≥ a1
  · rw [if_pos c4] at H
    have c4b0 : decide (a1 ≤ a0) = true := decide_eq_true c4; clear c4; obtain rfl := Option.some.inj H
    go_enter Tryd.func29, Tryd.ntmps29
    go_wp2
    go_ret
    exact ⟨by first | rfl | (simp; done) | (simp [*]; done), by repeat (first | exact Drawn0.refl _ | apply Drawn0.step)⟩
  · rw [if_neg c4] at H
    have c4b0 : decide (a1 ≤ a0) = false := decide_eq_false c4; clear c4; obtain rfl := Option.some.inj H
    go_enter Tryd.func29, Tryd.ntmps29
    go_wp2
    go_ret
    exact ⟨by first | rfl | (simp; done) | (simp [*]; done), by repeat (first | exact Drawn0.refl _ | apply Drawn0.step)⟩
end
section
open Go.Proofs.YtmbkhindhndccaaDoorW.PrintWords.Aside0 renaming mk → yaa
open Go.Proofs.YtmbkhindhndccaaDoorW.PrintWords renaming pw_below_drewN → yab, below_alloc → yac, below_drew1 → yad, below_size → yae, below_step → yaf, blk_frozen → yag, below_set → yah

def spec_OpOk.f (a0_0 : Int) (a0_1 : Int) (a0_2 : Int) (a0_3 : Int) (a0_4 : Int) : Option (Bool) := if a0_0 = 1 then ((spec_l1In.f a0_1 0 5).bind fun t102 => (if t102 = true then ((spec_l1In.f a0_2 0 5).bind fun t103 => (if t103 = true then ((spec_l1In.f a0_3 1 6).bind fun t104 => (if t104 = true then ((spec_l1In.f a0_4 1 6).bind fun t105 => (some t105)) else (some false))) else (some false))) else (some false))) else (if a0_0 = 7 then ((spec_l1In.f a0_1 1 6).bind fun t106 => (if t106 = true then ((spec_l1In.f a0_2 1 6).bind fun t107 => (if t107 = true then (if a0_3 = 0 then (some (a0_4 == 0)) else (some false)) else (some false))) else (some false))) else (if a0_0 = 8 then ((spec_l1In.f a0_1 0 255).bind fun t108 => (if t108 = true then ((spec_l1In.f a0_2 0 255).bind fun t109 => (if t109 = true then ((spec_l1In.f a0_3 0 255).bind fun t110 => (if t110 = true then (some (a0_4 == 0)) else (some false))) else (some false))) else (some false))) else ((spec_l1In.f a0_0 2 6).bind fun t111 => (if t111 = true then (if a0_1 = 0 then (if a0_2 = 0 then (if a0_3 = 0 then (some (a0_4 == 0)) else (some false)) else (some false)) else (some false)) else (some false)))))
set_option maxHeartbeats 8000000 in
set_option maxRecDepth 100000 in
theorem spec_OpOk.calls (a0_0 : Int) (a0_1 : Int) (a0_2 : Int) (a0_3 : Int) (a0_4 : Int) (r : Bool) (w : World) (h : spec_OpOk.f a0_0 a0_1 a0_2 a0_3 a0_4 = some r) :
  Calls Tryd.prog 48 #[.agg #[.int .i64 a0_0, .int .i64 a0_1, .int .i64 a0_2, .int .i64 a0_3, .int .i64 a0_4]] w fun e w' => e = .returned (.bool r) ∧ Below w.heap.size w w' := by
 have hu59 := Tryd.underlying59; have HB := yaa (Below.refl w.heap.size w); have H : (if a0_0 = 1 then ((spec_l1In.f a0_1 0 5).bind fun a6 => (if a6 = true then ((spec_l1In.f a0_2 0 5).bind fun a7 => (if a7 = true then ((spec_l1In.f a0_3 1 6).bind fun a8 => (if a8 = true then ((spec_l1In.f a0_4 1 6).bind fun a9 => (some a9)) else (some false))) else (some false))) else (some false))) else (if a0_0 = 7 then ((spec_l1In.f a0_1 1 6).bind fun b0 => (if b0 = true then ((spec_l1In.f a0_2 1 6).bind fun b1 => (if b1 = true then (if a0_3 = 0 then (some (a0_4 == 0)) else (some false)) else (some false))) else (some false))) else (if a0_0 = 8 then ((spec_l1In.f a0_1 0 255).bind fun b2 => (if b2 = true then ((spec_l1In.f a0_2 0 255).bind fun b3 => (if b3 = true then ((spec_l1In.f a0_3 0 255).bind fun b4 => (if b4 = true then (some (a0_4 == 0)) else (some false))) else (some false))) else (some false))) else ((spec_l1In.f a0_0 2 6).bind fun b5 => (if b5 = true then (if a0_1 = 0 then (if a0_2 = 0 then (if a0_3 = 0 then (some (a0_4 == 0)) else (some false)) else (some false)) else (some false)) else (some false)))))) = some r := h; clear h
 by_cases c2 : a0_0 = 1
 ·
  rw [if_pos c2] at H
  have u2 := beq_iff_eq.mpr c2; have u3 := bne_eq_false_iff_eq.mpr c2; clear c2; obtain ⟨a6, A3, H⟩ := bindA H; (try dsimp only at H)
  by_cases c4 : a6 = true
  ·
   subst c4
   rw [if_pos rfl] at H
   obtain ⟨a7, A5, H⟩ := bindA H; (try dsimp only at H)
   by_cases c6 : a7 = true
   ·
    subst c6
    rw [if_pos rfl] at H
    obtain ⟨a8, A7, H⟩ := bindA H; (try dsimp only at H)
    by_cases c8 : a8 = true
    ·
     subst c8
     rw [if_pos rfl] at H
     obtain ⟨a9, A9, H⟩ := bindA H; (try dsimp only at H); obtain rfl := Option.some.inj H
     go_enter Tryd.func48, Tryd.ntmps48
     go_wp2_with (first | ((with_reducible refine gd_ 1 rfl ?_); refine bx_ 1 rfl #[.int .i64 a0_0, .int .i64 a0_1, .int .i64 a0_2, .int .i64 a0_3, .int .i64 a0_4] 59 ?_; intro a1 hg w10 hbox hb; have a0 := yaa (hbox); have a2 := yaa ((by rw [hg]; exact (yae (upH HB.out)) : w.heap.size ≤ a1)); replace HB := yaa (yaf (upH HB.out) hb); have a3 := a2; clear hb hbox hg; obtain ⟨d2, d3, d4, d5, d6⟩ := cc5_ a0.out; obtain ⟨d7, d8, d9, e0⟩ := cf4_ a0.out; have e1 := yag a0.out 4) | ((with_reducible refine gc_ 29 rfl ?_); refine gl_ (some 9) rfl Tryd.func29 #[.int .i64 a0_1, .int .i64 0, .int .i64 5] ?_; (with_reducible refine (spec_l1In.calls a0_1 0 5 true _ A3.out).mono ?_); rintro e w' ⟨rfl, ⟨nd, rfl⟩⟩; refine ⟨_, rfl, ?_⟩) | (go_at_call 29; (with_reducible refine (spec_l1In.calls a0_2 0 5 true _ A5.out).mono ?_); rintro e w' ⟨rfl, ⟨nd, rfl⟩⟩) | (go_at_call 29; (with_reducible refine (spec_l1In.calls a0_3 1 6 true _ A7.out).mono ?_); rintro e w' ⟨rfl, ⟨nd, rfl⟩⟩) | (go_at_call 29; (with_reducible refine (spec_l1In.calls a0_4 1 6 a9 _ A9.out).mono ?_); rintro e w' ⟨rfl, ⟨nd, rfl⟩⟩))
     go_ret
     exact ⟨by first | rfl | (simp [*, errW_none, errW_some] <;> rfl), by repeat (with_reducible first | exact HB.out | apply yac | apply yab | apply yad | refine yah ?_ (Aside0.out ‹_›))⟩
    ·
     replace c8 := Bool.eq_false_iff.mpr c8
     subst c8
     rw [if_neg (show ¬ (false = true) by decide)] at H
     obtain rfl := Option.some.inj H
     go_enter Tryd.func48, Tryd.ntmps48
     go_wp2_with (first | ((with_reducible refine gd_ 1 rfl ?_); refine bx_ 1 rfl #[.int .i64 a0_0, .int .i64 a0_1, .int .i64 a0_2, .int .i64 a0_3, .int .i64 a0_4] 59 ?_; intro a1 hg w12 hbox hb; have a0 := yaa (hbox); have a2 := yaa ((by rw [hg]; exact (yae (upH HB.out)) : w.heap.size ≤ a1)); replace HB := yaa (yaf (upH HB.out) hb); have a3 := a2; clear hb hbox hg; obtain ⟨e2, e3, e4, e5, e6⟩ := cc5_ a0.out; obtain ⟨e7, e8, e9, f0⟩ := cf4_ a0.out; have f1 := yag a0.out 4) | ((with_reducible refine gc_ 29 rfl ?_); refine gl_ (some 9) rfl Tryd.func29 #[.int .i64 a0_1, .int .i64 0, .int .i64 5] ?_; (with_reducible refine (spec_l1In.calls a0_1 0 5 true _ A3.out).mono ?_); rintro e w' ⟨rfl, ⟨nd, rfl⟩⟩; refine ⟨_, rfl, ?_⟩) | (go_at_call 29; (with_reducible refine (spec_l1In.calls a0_2 0 5 true _ A5.out).mono ?_); rintro e w' ⟨rfl, ⟨nd, rfl⟩⟩) | (go_at_call 29; (with_reducible refine (spec_l1In.calls a0_3 1 6 false _ A7.out).mono ?_); rintro e w' ⟨rfl, ⟨nd, rfl⟩⟩))
     go_ret
     exact ⟨by first | rfl | (simp [*, errW_none, errW_some] <;> rfl), by repeat (with_reducible first | exact HB.out | apply yac | apply yab | apply yad | refine yah ?_ (Aside0.out ‹_›))⟩
   ·
    replace c6 := Bool.eq_false_iff.mpr c6
    subst c6
    rw [if_neg (show ¬ (false = true) by decide)] at H
    obtain rfl := Option.some.inj H
    go_enter Tryd.func48, Tryd.ntmps48
    go_wp2_with (first | ((with_reducible refine gd_ 1 rfl ?_); refine bx_ 1 rfl #[.int .i64 a0_0, .int .i64 a0_1, .int .i64 a0_2, .int .i64 a0_3, .int .i64 a0_4] 59 ?_; intro a1 hg w14 hbox hb; have a0 := yaa (hbox); have a2 := yaa ((by rw [hg]; exact (yae (upH HB.out)) : w.heap.size ≤ a1)); replace HB := yaa (yaf (upH HB.out) hb); have a3 := a2; clear hb hbox hg; obtain ⟨f2, f3, f4, f5, f6⟩ := cc5_ a0.out; obtain ⟨f7, f8, f9, g0⟩ := cf4_ a0.out; have g1 := yag a0.out 4) | ((with_reducible refine gc_ 29 rfl ?_); refine gl_ (some 9) rfl Tryd.func29 #[.int .i64 a0_1, .int .i64 0, .int .i64 5] ?_; (with_reducible refine (spec_l1In.calls a0_1 0 5 true _ A3.out).mono ?_); rintro e w' ⟨rfl, ⟨nd, rfl⟩⟩; refine ⟨_, rfl, ?_⟩) | (go_at_call 29; (with_reducible refine (spec_l1In.calls a0_2 0 5 false _ A5.out).mono ?_); rintro e w' ⟨rfl, ⟨nd, rfl⟩⟩))
    go_ret
    exact ⟨by first | rfl | (simp [*, errW_none, errW_some] <;> rfl), by repeat (with_reducible first | exact HB.out | apply yac | apply yab | apply yad | refine yah ?_ (Aside0.out ‹_›))⟩
  ·
   replace c4 := Bool.eq_false_iff.mpr c4
   subst c4
   rw [if_neg (show ¬ (false = true) by decide)] at H
   obtain rfl := Option.some.inj H
   go_enter Tryd.func48, Tryd.ntmps48
   go_wp2_with (first | ((with_reducible refine gd_ 1 rfl ?_); refine bx_ 1 rfl #[.int .i64 a0_0, .int .i64 a0_1, .int .i64 a0_2, .int .i64 a0_3, .int .i64 a0_4] 59 ?_; intro a1 hg w16 hbox hb; have a0 := yaa (hbox); have a2 := yaa ((by rw [hg]; exact (yae (upH HB.out)) : w.heap.size ≤ a1)); replace HB := yaa (yaf (upH HB.out) hb); have a3 := a2; clear hb hbox hg; obtain ⟨g2, g3, g4, g5, g6⟩ := cc5_ a0.out; obtain ⟨g7, g8, g9, h0⟩ := cf4_ a0.out; have h1 := yag a0.out 4) | ((with_reducible refine gc_ 29 rfl ?_); refine gl_ (some 9) rfl Tryd.func29 #[.int .i64 a0_1, .int .i64 0, .int .i64 5] ?_; (with_reducible refine (spec_l1In.calls a0_1 0 5 false _ A3.out).mono ?_); rintro e w' ⟨rfl, ⟨nd, rfl⟩⟩; refine ⟨_, rfl, ?_⟩))
   go_ret
   exact ⟨by first | rfl | (simp [*, errW_none, errW_some] <;> rfl), by repeat (with_reducible first | exact HB.out | apply yac | apply yab | apply yad | refine yah ?_ (Aside0.out ‹_›))⟩
 ·
  rw [if_neg c2] at H
  have u2 := beq_eq_false_iff_ne.mpr c2; have u3 := bne_iff_ne.mpr c2
  by_cases c18 : a0_0 = 7
  ·
   rw [if_pos c18] at H
   have b6 := beq_iff_eq.mpr c18; have b7 := bne_eq_false_iff_eq.mpr c18; clear c18; obtain ⟨b0, A19, H⟩ := bindA H; (try dsimp only at H)
   by_cases c20 : b0 = true
   ·
    subst c20
    rw [if_pos rfl] at H
    obtain ⟨b1, A21, H⟩ := bindA H; (try dsimp only at H)
    by_cases c22 : b1 = true
    ·
     subst c22
     rw [if_pos rfl] at H
     by_cases c23 : a0_3 = 0
     ·
      rw [if_pos c23] at H
      have b8 := beq_iff_eq.mpr c23; have b9 := bne_eq_false_iff_eq.mpr c23; clear c23; obtain rfl := Option.some.inj H
      go_enter Tryd.func48, Tryd.ntmps48
      go_wp2_with (first | ((with_reducible refine gd_ 1 rfl ?_); refine bx_ 1 rfl #[.int .i64 a0_0, .int .i64 a0_1, .int .i64 a0_2, .int .i64 a0_3, .int .i64 a0_4] 59 ?_; intro a1 hg w24 hbox hb; have a0 := yaa (hbox); have a2 := yaa ((by rw [hg]; exact (yae (upH HB.out)) : w.heap.size ≤ a1)); replace HB := yaa (yaf (upH HB.out) hb); have a3 := a2; clear hb hbox hg; obtain ⟨h2, h3, h4, h5, h6⟩ := cc5_ a0.out; obtain ⟨h7, h8, h9, i0⟩ := cf4_ a0.out; have i1 := yag a0.out 4) | ((with_reducible refine gc_ 29 rfl ?_); refine gl_ (some 29) rfl Tryd.func29 #[.int .i64 a0_1, .int .i64 1, .int .i64 6] ?_; (with_reducible refine (spec_l1In.calls a0_1 1 6 true _ A19.out).mono ?_); rintro e w' ⟨rfl, ⟨nd, rfl⟩⟩; refine ⟨_, rfl, ?_⟩) | (go_at_call 29; (with_reducible refine (spec_l1In.calls a0_2 1 6 true _ A21.out).mono ?_); rintro e w' ⟨rfl, ⟨nd, rfl⟩⟩))
      go_ret
      exact ⟨by first | rfl | (simp [*, errW_none, errW_some] <;> rfl), by repeat (with_reducible first | exact HB.out | apply yac | apply yab | apply yad | refine yah ?_ (Aside0.out ‹_›))⟩
     ·
      rw [if_neg c23] at H
      have b8 := beq_eq_false_iff_ne.mpr c23; have b9 := bne_iff_ne.mpr c23; obtain rfl := Option.some.inj H
      go_enter Tryd.func48, Tryd.ntmps48
      go_wp2_with (first | ((with_reducible refine gd_ 1 rfl ?_); refine bx_ 1 rfl #[.int .i64 a0_0, .int .i64 a0_1, .int .i64 a0_2, .int .i64 a0_3, .int .i64 a0_4] 59 ?_; intro a1 hg w26 hbox hb; have a0 := yaa (hbox); have a2 := yaa ((by rw [hg]; exact (yae (upH HB.out)) : w.heap.size ≤ a1)); replace HB := yaa (yaf (upH HB.out) hb); have a3 := a2; clear hb hbox hg; obtain ⟨i2, i3, i4, i5, i6⟩ := cc5_ a0.out; obtain ⟨i7, i8, i9, j0⟩ := cf4_ a0.out; have j1 := yag a0.out 4) | ((with_reducible refine gc_ 29 rfl ?_); refine gl_ (some 29) rfl Tryd.func29 #[.int .i64 a0_1, .int .i64 1, .int .i64 6] ?_; (with_reducible refine (spec_l1In.calls a0_1 1 6 true _ A19.out).mono ?_); rintro e w' ⟨rfl, ⟨nd, rfl⟩⟩; refine ⟨_, rfl, ?_⟩) | (go_at_call 29; (with_reducible refine (spec_l1In.calls a0_2 1 6 true _ A21.out).mono ?_); rintro e w' ⟨rfl, ⟨nd, rfl⟩⟩))
      go_ret
      exact ⟨by first | rfl | (simp [*, errW_none, errW_some] <;> rfl), by repeat (with_reducible first | exact HB.out | apply yac | apply yab | apply yad | refine yah ?_ (Aside0.out ‹_›))⟩
    ·
     replace c22 := Bool.eq_false_iff.mpr c22
     subst c22
     rw [if_neg (show ¬ (false = true) by decide)] at H
     obtain rfl := Option.some.inj H
     go_enter Tryd.func48, Tryd.ntmps48
     go_wp2_with (first | ((with_reducible refine gd_ 1 rfl ?_); refine bx_ 1 rfl #[.int .i64 a0_0, .int .i64 a0_1, .int .i64 a0_2, .int .i64 a0_3, .int .i64 a0_4] 59 ?_; intro a1 hg w28 hbox hb; have a0 := yaa (hbox); have a2 := yaa ((by rw [hg]; exact (yae (upH HB.out)) : w.heap.size ≤ a1)); replace HB := yaa (yaf (upH HB.out) hb); have a3 := a2; clear hb hbox hg; obtain ⟨j2, j3, j4, j5, j6⟩ := cc5_ a0.out; obtain ⟨j7, j8, j9, k0⟩ := cf4_ a0.out; have k1 := yag a0.out 4) | ((with_reducible refine gc_ 29 rfl ?_); refine gl_ (some 29) rfl Tryd.func29 #[.int .i64 a0_1, .int .i64 1, .int .i64 6] ?_; (with_reducible refine (spec_l1In.calls a0_1 1 6 true _ A19.out).mono ?_); rintro e w' ⟨rfl, ⟨nd, rfl⟩⟩; refine ⟨_, rfl, ?_⟩) | (go_at_call 29; (with_reducible refine (spec_l1In.calls a0_2 1 6 false _ A21.out).mono ?_); rintro e w' ⟨rfl, ⟨nd, rfl⟩⟩))
     go_ret
     exact ⟨by first | rfl | (simp [*, errW_none, errW_some] <;> rfl), by repeat (with_reducible first | exact HB.out | apply yac | apply yab | apply yad | refine yah ?_ (Aside0.out ‹_›))⟩
   ·
    replace c20 := Bool.eq_false_iff.mpr c20
    subst c20
    rw [if_neg (show ¬ (false = true) by decide)] at H
    obtain rfl := Option.some.inj H
    go_enter Tryd.func48, Tryd.ntmps48
    go_wp2_with (first | ((with_reducible refine gd_ 1 rfl ?_); refine bx_ 1 rfl #[.int .i64 a0_0, .int .i64 a0_1, .int .i64 a0_2, .int .i64 a0_3, .int .i64 a0_4] 59 ?_; intro a1 hg w30 hbox hb; have a0 := yaa (hbox); have a2 := yaa ((by rw [hg]; exact (yae (upH HB.out)) : w.heap.size ≤ a1)); replace HB := yaa (yaf (upH HB.out) hb); have a3 := a2; clear hb hbox hg; obtain ⟨k2, k3, k4, k5, k6⟩ := cc5_ a0.out; obtain ⟨k7, k8, k9, l0⟩ := cf4_ a0.out; have l1 := yag a0.out 4) | ((with_reducible refine gc_ 29 rfl ?_); refine gl_ (some 29) rfl Tryd.func29 #[.int .i64 a0_1, .int .i64 1, .int .i64 6] ?_; (with_reducible refine (spec_l1In.calls a0_1 1 6 false _ A19.out).mono ?_); rintro e w' ⟨rfl, ⟨nd, rfl⟩⟩; refine ⟨_, rfl, ?_⟩))
    go_ret
    exact ⟨by first | rfl | (simp [*, errW_none, errW_some] <;> rfl), by repeat (with_reducible first | exact HB.out | apply yac | apply yab | apply yad | refine yah ?_ (Aside0.out ‹_›))⟩
  ·
   rw [if_neg c18] at H
   have b6 := beq_eq_false_iff_ne.mpr c18; have b7 := bne_iff_ne.mpr c18
   by_cases c32 : a0_0 = 8
   ·
    rw [if_pos c32] at H
    have c0 := beq_iff_eq.mpr c32; have c1 := bne_eq_false_iff_eq.mpr c32; clear c32; obtain ⟨b2, A33, H⟩ := bindA H; (try dsimp only at H)
    by_cases c34 : b2 = true
    ·
     subst c34
     rw [if_pos rfl] at H
     obtain ⟨b3, A35, H⟩ := bindA H; (try dsimp only at H)
     by_cases c36 : b3 = true
     ·
      subst c36
      rw [if_pos rfl] at H
      obtain ⟨b4, A37, H⟩ := bindA H; (try dsimp only at H)
      by_cases c38 : b4 = true
      ·
       subst c38
       rw [if_pos rfl] at H
       obtain rfl := Option.some.inj H
       go_enter Tryd.func48, Tryd.ntmps48
       go_wp2_with (first | ((with_reducible refine gd_ 1 rfl ?_); refine bx_ 1 rfl #[.int .i64 a0_0, .int .i64 a0_1, .int .i64 a0_2, .int .i64 a0_3, .int .i64 a0_4] 59 ?_; intro a1 hg w39 hbox hb; have a0 := yaa (hbox); have a2 := yaa ((by rw [hg]; exact (yae (upH HB.out)) : w.heap.size ≤ a1)); replace HB := yaa (yaf (upH HB.out) hb); have a3 := a2; clear hb hbox hg; obtain ⟨l2, l3, l4, l5, l6⟩ := cc5_ a0.out; obtain ⟨l7, l8, l9, m0⟩ := cf4_ a0.out; have m1 := yag a0.out 4) | ((with_reducible refine gc_ 29 rfl ?_); refine gl_ (some 49) rfl Tryd.func29 #[.int .i64 a0_1, .int .i64 0, .int .i64 255] ?_; (with_reducible refine (spec_l1In.calls a0_1 0 255 true _ A33.out).mono ?_); rintro e w' ⟨rfl, ⟨nd, rfl⟩⟩; refine ⟨_, rfl, ?_⟩) | (go_at_call 29; (with_reducible refine (spec_l1In.calls a0_2 0 255 true _ A35.out).mono ?_); rintro e w' ⟨rfl, ⟨nd, rfl⟩⟩) | (go_at_call 29; (with_reducible refine (spec_l1In.calls a0_3 0 255 true _ A37.out).mono ?_); rintro e w' ⟨rfl, ⟨nd, rfl⟩⟩))
       go_ret
       exact ⟨by first | rfl | (simp [*, errW_none, errW_some] <;> rfl), by repeat (with_reducible first | exact HB.out | apply yac | apply yab | apply yad | refine yah ?_ (Aside0.out ‹_›))⟩
      ·
       replace c38 := Bool.eq_false_iff.mpr c38
       subst c38
       rw [if_neg (show ¬ (false = true) by decide)] at H
       obtain rfl := Option.some.inj H
       go_enter Tryd.func48, Tryd.ntmps48
       go_wp2_with (first | ((with_reducible refine gd_ 1 rfl ?_); refine bx_ 1 rfl #[.int .i64 a0_0, .int .i64 a0_1, .int .i64 a0_2, .int .i64 a0_3, .int .i64 a0_4] 59 ?_; intro a1 hg w41 hbox hb; have a0 := yaa (hbox); have a2 := yaa ((by rw [hg]; exact (yae (upH HB.out)) : w.heap.size ≤ a1)); replace HB := yaa (yaf (upH HB.out) hb); have a3 := a2; clear hb hbox hg; obtain ⟨m2, m3, m4, m5, m6⟩ := cc5_ a0.out; obtain ⟨m7, m8, m9, n0⟩ := cf4_ a0.out; have n1 := yag a0.out 4) | ((with_reducible refine gc_ 29 rfl ?_); refine gl_ (some 49) rfl Tryd.func29 #[.int .i64 a0_1, .int .i64 0, .int .i64 255] ?_; (with_reducible refine (spec_l1In.calls a0_1 0 255 true _ A33.out).mono ?_); rintro e w' ⟨rfl, ⟨nd, rfl⟩⟩; refine ⟨_, rfl, ?_⟩) | (go_at_call 29; (with_reducible refine (spec_l1In.calls a0_2 0 255 true _ A35.out).mono ?_); rintro e w' ⟨rfl, ⟨nd, rfl⟩⟩) | (go_at_call 29; (with_reducible refine (spec_l1In.calls a0_3 0 255 false _ A37.out).mono ?_); rintro e w' ⟨rfl, ⟨nd, rfl⟩⟩))
       go_ret
       exact ⟨by first | rfl | (simp [*, errW_none, errW_some] <;> rfl), by repeat (with_reducible first | exact HB.out | apply yac | apply yab | apply yad | refine yah ?_ (Aside0.out ‹_›))⟩
     ·
      replace c36 := Bool.eq_false_iff.mpr c36
      subst c36
      rw [if_neg (show ¬ (false = true) by decide)] at H
      obtain rfl := Option.some.inj H
      go_enter Tryd.func48, Tryd.ntmps48
      go_wp2_with (first | ((with_reducible refine gd_ 1 rfl ?_); refine bx_ 1 rfl #[.int .i64 a0_0, .int .i64 a0_1, .int .i64 a0_2, .int .i64 a0_3, .int .i64 a0_4] 59 ?_; intro a1 hg w43 hbox hb; have a0 := yaa (hbox); have a2 := yaa ((by rw [hg]; exact (yae (upH HB.out)) : w.heap.size ≤ a1)); replace HB := yaa (yaf (upH HB.out) hb); have a3 := a2; clear hb hbox hg; obtain ⟨n2, n3, n4, n5, n6⟩ := cc5_ a0.out; obtain ⟨n7, n8, n9, o0⟩ := cf4_ a0.out; have o1 := yag a0.out 4) | ((with_reducible refine gc_ 29 rfl ?_); refine gl_ (some 49) rfl Tryd.func29 #[.int .i64 a0_1, .int .i64 0, .int .i64 255] ?_; (with_reducible refine (spec_l1In.calls a0_1 0 255 true _ A33.out).mono ?_); rintro e w' ⟨rfl, ⟨nd, rfl⟩⟩; refine ⟨_, rfl, ?_⟩) | (go_at_call 29; (with_reducible refine (spec_l1In.calls a0_2 0 255 false _ A35.out).mono ?_); rintro e w' ⟨rfl, ⟨nd, rfl⟩⟩))
      go_ret
      exact ⟨by first | rfl | (simp [*, errW_none, errW_some] <;> rfl), by repeat (with_reducible first | exact HB.out | apply yac | apply yab | apply yad | refine yah ?_ (Aside0.out ‹_›))⟩
    ·
     replace c34 := Bool.eq_false_iff.mpr c34
     subst c34
     rw [if_neg (show ¬ (false = true) by decide)] at H
     obtain rfl := Option.some.inj H
     go_enter Tryd.func48, Tryd.ntmps48
     go_wp2_with (first | ((with_reducible refine gd_ 1 rfl ?_); refine bx_ 1 rfl #[.int .i64 a0_0, .int .i64 a0_1, .int .i64 a0_2, .int .i64 a0_3, .int .i64 a0_4] 59 ?_; intro a1 hg w45 hbox hb; have a0 := yaa (hbox); have a2 := yaa ((by rw [hg]; exact (yae (upH HB.out)) : w.heap.size ≤ a1)); replace HB := yaa (yaf (upH HB.out) hb); have a3 := a2; clear hb hbox hg; obtain ⟨o2, o3, o4, o5, o6⟩ := cc5_ a0.out; obtain ⟨o7, o8, o9, p0⟩ := cf4_ a0.out; have p1 := yag a0.out 4) | ((with_reducible refine gc_ 29 rfl ?_); refine gl_ (some 49) rfl Tryd.func29 #[.int .i64 a0_1, .int .i64 0, .int .i64 255] ?_; (with_reducible refine (spec_l1In.calls a0_1 0 255 false _ A33.out).mono ?_); rintro e w' ⟨rfl, ⟨nd, rfl⟩⟩; refine ⟨_, rfl, ?_⟩))
     go_ret
     exact ⟨by first | rfl | (simp [*, errW_none, errW_some] <;> rfl), by repeat (with_reducible first | exact HB.out | apply yac | apply yab | apply yad | refine yah ?_ (Aside0.out ‹_›))⟩
   ·
    rw [if_neg c32] at H
    have c0 := beq_eq_false_iff_ne.mpr c32; have c1 := bne_iff_ne.mpr c32; obtain ⟨b5, A47, H⟩ := bindA H; (try dsimp only at H)
    by_cases c48 : b5 = true
    ·
     subst c48
     rw [if_pos rfl] at H
     by_cases c49 : a0_1 = 0
     ·
      rw [if_pos c49] at H
      have c3 := beq_iff_eq.mpr c49; have c5 := bne_eq_false_iff_eq.mpr c49; clear c49
      by_cases c50 : a0_2 = 0
      ·
       rw [if_pos c50] at H
       have c7 := beq_iff_eq.mpr c50; have c9 := bne_eq_false_iff_eq.mpr c50; clear c50
       by_cases c51 : a0_3 = 0
       ·
        rw [if_pos c51] at H
        have d0 := beq_iff_eq.mpr c51; have d1 := bne_eq_false_iff_eq.mpr c51; clear c51; obtain rfl := Option.some.inj H
        go_enter Tryd.func48, Tryd.ntmps48
        go_wp2_with (first | ((with_reducible refine gd_ 1 rfl ?_); refine bx_ 1 rfl #[.int .i64 a0_0, .int .i64 a0_1, .int .i64 a0_2, .int .i64 a0_3, .int .i64 a0_4] 59 ?_; intro a1 hg w52 hbox hb; have a0 := yaa (hbox); have a2 := yaa ((by rw [hg]; exact (yae (upH HB.out)) : w.heap.size ≤ a1)); replace HB := yaa (yaf (upH HB.out) hb); have a3 := a2; clear hb hbox hg; obtain ⟨p2, p3, p4, p5, p6⟩ := cc5_ a0.out; obtain ⟨p7, p8, p9, q0⟩ := cf4_ a0.out; have q1 := yag a0.out 4) | ((with_reducible refine gc_ 29 rfl ?_); refine gl_ (some 67) rfl Tryd.func29 #[.int .i64 a0_0, .int .i64 2, .int .i64 6] ?_; (with_reducible refine (spec_l1In.calls a0_0 2 6 true _ A47.out).mono ?_); rintro e w' ⟨rfl, ⟨nd, rfl⟩⟩; refine ⟨_, rfl, ?_⟩))
        go_ret
        exact ⟨by first | rfl | (simp [*, errW_none, errW_some] <;> rfl), by repeat (with_reducible first | exact HB.out | apply yac | apply yab | apply yad | refine yah ?_ (Aside0.out ‹_›))⟩
       ·
        rw [if_neg c51] at H
        have d0 := beq_eq_false_iff_ne.mpr c51; have d1 := bne_iff_ne.mpr c51; obtain rfl := Option.some.inj H
        go_enter Tryd.func48, Tryd.ntmps48
        go_wp2_with (first | ((with_reducible refine gd_ 1 rfl ?_); refine bx_ 1 rfl #[.int .i64 a0_0, .int .i64 a0_1, .int .i64 a0_2, .int .i64 a0_3, .int .i64 a0_4] 59 ?_; intro a1 hg w54 hbox hb; have a0 := yaa (hbox); have a2 := yaa ((by rw [hg]; exact (yae (upH HB.out)) : w.heap.size ≤ a1)); replace HB := yaa (yaf (upH HB.out) hb); have a3 := a2; clear hb hbox hg; obtain ⟨q2, q3, q4, q5, q6⟩ := cc5_ a0.out; obtain ⟨q7, q8, q9, r0⟩ := cf4_ a0.out; have r1 := yag a0.out 4) | ((with_reducible refine gc_ 29 rfl ?_); refine gl_ (some 67) rfl Tryd.func29 #[.int .i64 a0_0, .int .i64 2, .int .i64 6] ?_; (with_reducible refine (spec_l1In.calls a0_0 2 6 true _ A47.out).mono ?_); rintro e w' ⟨rfl, ⟨nd, rfl⟩⟩; refine ⟨_, rfl, ?_⟩))
        go_ret
        exact ⟨by first | rfl | (simp [*, errW_none, errW_some] <;> rfl), by repeat (with_reducible first | exact HB.out | apply yac | apply yab | apply yad | refine yah ?_ (Aside0.out ‹_›))⟩
      ·
       rw [if_neg c50] at H
       have c7 := beq_eq_false_iff_ne.mpr c50; have c9 := bne_iff_ne.mpr c50; obtain rfl := Option.some.inj H
       go_enter Tryd.func48, Tryd.ntmps48
       go_wp2_with (first | ((with_reducible refine gd_ 1 rfl ?_); refine bx_ 1 rfl #[.int .i64 a0_0, .int .i64 a0_1, .int .i64 a0_2, .int .i64 a0_3, .int .i64 a0_4] 59 ?_; intro a1 hg w56 hbox hb; have a0 := yaa (hbox); have a2 := yaa ((by rw [hg]; exact (yae (upH HB.out)) : w.heap.size ≤ a1)); replace HB := yaa (yaf (upH HB.out) hb); have a3 := a2; clear hb hbox hg; obtain ⟨r2, r3, r4, r5, r6⟩ := cc5_ a0.out; obtain ⟨r7, r8, r9, s0⟩ := cf4_ a0.out; have s1 := yag a0.out 4) | ((with_reducible refine gc_ 29 rfl ?_); refine gl_ (some 67) rfl Tryd.func29 #[.int .i64 a0_0, .int .i64 2, .int .i64 6] ?_; (with_reducible refine (spec_l1In.calls a0_0 2 6 true _ A47.out).mono ?_); rintro e w' ⟨rfl, ⟨nd, rfl⟩⟩; refine ⟨_, rfl, ?_⟩))
       go_ret
       exact ⟨by first | rfl | (simp [*, errW_none, errW_some] <;> rfl), by repeat (with_reducible first | exact HB.out | apply yac | apply yab | apply yad | refine yah ?_ (Aside0.out ‹_›))⟩
     ·
      rw [if_neg c49] at H
      have c3 := beq_eq_false_iff_ne.mpr c49; have c5 := bne_iff_ne.mpr c49; obtain rfl := Option.some.inj H
      go_enter Tryd.func48, Tryd.ntmps48
      go_wp2_with (first | ((with_reducible refine gd_ 1 rfl ?_); refine bx_ 1 rfl #[.int .i64 a0_0, .int .i64 a0_1, .int .i64 a0_2, .int .i64 a0_3, .int .i64 a0_4] 59 ?_; intro a1 hg w58 hbox hb; have a0 := yaa (hbox); have a2 := yaa ((by rw [hg]; exact (yae (upH HB.out)) : w.heap.size ≤ a1)); replace HB := yaa (yaf (upH HB.out) hb); have a3 := a2; clear hb hbox hg; obtain ⟨s2, s3, s4, s5, s6⟩ := cc5_ a0.out; obtain ⟨s7, s8, s9, t0⟩ := cf4_ a0.out; have t1 := yag a0.out 4) | ((with_reducible refine gc_ 29 rfl ?_); refine gl_ (some 67) rfl Tryd.func29 #[.int .i64 a0_0, .int .i64 2, .int .i64 6] ?_; (with_reducible refine (spec_l1In.calls a0_0 2 6 true _ A47.out).mono ?_); rintro e w' ⟨rfl, ⟨nd, rfl⟩⟩; refine ⟨_, rfl, ?_⟩))
      go_ret
      exact ⟨by first | rfl | (simp [*, errW_none, errW_some] <;> rfl), by repeat (with_reducible first | exact HB.out | apply yac | apply yab | apply yad | refine yah ?_ (Aside0.out ‹_›))⟩
    ·
     replace c48 := Bool.eq_false_iff.mpr c48
     subst c48
     rw [if_neg (show ¬ (false = true) by decide)] at H
     obtain rfl := Option.some.inj H
     go_enter Tryd.func48, Tryd.ntmps48
     go_wp2_with (first | ((with_reducible refine gd_ 1 rfl ?_); refine bx_ 1 rfl #[.int .i64 a0_0, .int .i64 a0_1, .int .i64 a0_2, .int .i64 a0_3, .int .i64 a0_4] 59 ?_; intro a1 hg w60 hbox hb; have a0 := yaa (hbox); have a2 := yaa ((by rw [hg]; exact (yae (upH HB.out)) : w.heap.size ≤ a1)); replace HB := yaa (yaf (upH HB.out) hb); have a3 := a2; clear hb hbox hg; obtain ⟨t2, t3, t4, t5, t6⟩ := cc5_ a0.out; obtain ⟨t7, t8, t9, u0⟩ := cf4_ a0.out; have u1 := yag a0.out 4) | ((with_reducible refine gc_ 29 rfl ?_); refine gl_ (some 67) rfl Tryd.func29 #[.int .i64 a0_0, .int .i64 2, .int .i64 6] ?_; (with_reducible refine (spec_l1In.calls a0_0 2 6 false _ A47.out).mono ?_); rintro e w' ⟨rfl, ⟨nd, rfl⟩⟩; refine ⟨_, rfl, ?_⟩))
     go_ret
     exact ⟨by first | rfl | (simp [*, errW_none, errW_some] <;> rfl), by repeat (with_reducible first | exact HB.out | apply yac | apply yab | apply yad | refine yah ?_ (Aside0.out ‹_›))⟩
end
section
def spec_l6All.l0 : Nat → List (S59) → Int → Option (Bool)
 | 0, _, _ => none
 | k + 1, x0, x3 => if x3 < (x0.length : Int) then (if 0 ≤ x3 then ((spec_OpOk.f ((rd_T59 x0 x3).f0) ((rd_T59 x0 x3).f1) ((rd_T59 x0 x3).f2) ((rd_T59 x0 x3).f3) ((rd_T59 x0 x3).f4)).bind fun t102 => (if t102 = true then (spec_l6All.l0 k x0 (wrap64 (x3 + 1))) else (some false))) else (none)) else (some (decide ((x0.length : Int) ≤ 5)))
def spec_l6All.f (k : Nat) (l0 : List (S59)) : Option (Bool) := spec_l6All.l0 k l0 0
set_option maxHeartbeats 8000000 in
set_option maxRecDepth 100000 in
theorem spec_l6All.calls (k : Nat) (A0 : Option Addr) (c0 : Nat) (l0 : List (S59)) (r : Bool) (w : World) (hr0 : Kd.C k59 w A0 l0.length l0) (hc0 : l0.length ≤ c0) (h : spec_l6All.f k l0 = some r) :
  Calls Tryd.prog 27 #[.slice A0 l0.length c0] w fun e w' => e = .returned (.bool r) ∧ Below w.heap.size w w' := by
 have hu59 := Tryd.underlying59; have HR0 := Aside0.mk hr0; have HC0 := Aside0.mk hc0; clear hr0 hc0; have HB := Aside0.mk (Below.refl w.heap.size w); have H : (spec_l6All.l0 k l0 0) = some r := h; clear h; have H' := Aside0.mk H; clear H
 go_enter Tryd.func27, Tryd.ntmps27
 go_wp2
 (try simp only [Act.put, List.setIfInBounds_toArray, List.set_cons_zero, List.set_cons_succ])
 go_loopg [3] k (fun kq v3 w' => ∃ (a1 : Int), v3 = .int .i64 a1 ∧ Aside0 (spec_l6All.l0 kq l0 a1 = some r) ∧ Aside0 (kq ≤ k) ∧ Aside0 (Below w.heap.size w w'))
 case atStart => exact ⟨(0), (by first | rfl | (simp; done) | (simp [*]; done)), H', ⟨Nat.le_refl _⟩, ⟨upH HB.out⟩⟩
 case round =>
  clear H'; obtain ⟨a1, rfl, HA, HK1, HB⟩ := hrel
  cases gk with
  | zero => exact absurd HA.out (by simp [spec_l6All.l0])
  | succ k1 =>
   have H := HA.out; clear HA
   simp only [spec_l6All.l0] at H
   by_cases c2 : a1 < (l0.length : Int)
   ·
    rw [if_pos c2] at H
    have a8 : decide (a1 < (l0.length : Int)) = true := decide_eq_true c2; clear c2
    by_cases c3 : 0 ≤ a1
    ·
     rw [if_pos c3] at H
     replace c3 := decide_eq_true c3; obtain ⟨a9, A4, H⟩ := bindA H; (try dsimp only at H)
     by_cases c5 : a9 = true
     ·
      subst c5
      rw [if_pos rfl] at H
      have H' := Aside0.mk H; clear H; have p101 : 0 ≤ (a1 : Int) := of_decide_eq_true (by assumption); have q101 : a1 < (l0.length : Int) := of_decide_eq_true (by assumption); obtain ⟨ad101, a7, a2, a3, a4, a5, a6⟩ := at_T59 HR0.out a1 p101 q101
      cases a7
      replace a2 := (upc_ HB.out a2 :); replace a3 := (upc_ HB.out a3 :); replace a4 := (upc_ HB.out a4 :); replace a5 := (upc_ HB.out a5 :); replace a6 := (upc_ HB.out a6 :); replace p101 := eq_true p101; replace q101 := eq_true q101
      go_wp2_with (first | ((with_reducible refine gc_ 48 rfl ?_); refine gl_ (some 14) rfl Tryd.func48 #[.agg #[.int .i64 ((rd_T59 l0 a1).f0), .int .i64 ((rd_T59 l0 a1).f1), .int .i64 ((rd_T59 l0 a1).f2), .int .i64 ((rd_T59 l0 a1).f3), .int .i64 ((rd_T59 l0 a1).f4)]] ?_; (with_reducible refine (spec_OpOk.calls ((rd_T59 l0 a1).f0) ((rd_T59 l0 a1).f1) ((rd_T59 l0 a1).f2) ((rd_T59 l0 a1).f3) ((rd_T59 l0 a1).f4) true _ A4.out).mono ?_); rintro e w6 ⟨rfl, hb⟩; refine ⟨_, rfl, ?_⟩; replace HB := Aside0.mk (below_step (upH HB.out) hb); (try clear hb)))
      go_roundg k1
      case measure => have := HK1.out; omega
      case rel => exact ⟨(wrap64 (a1 + 1)), (by first | rfl | (simp; done) | (simp [*]; done)), H', ⟨by have := HK1.out; omega⟩, ⟨upH HB.out⟩⟩
     ·
      replace c5 := Bool.eq_false_iff.mpr c5
      subst c5
      rw [if_neg (show ¬ (false = true) by decide)] at H
      obtain rfl := Option.some.inj H; have p101 : 0 ≤ (a1 : Int) := of_decide_eq_true (by assumption); have q101 : a1 < (l0.length : Int) := of_decide_eq_true (by assumption); obtain ⟨ad101, a7, a2, a3, a4, a5, a6⟩ := at_T59 HR0.out a1 p101 q101
      cases a7
      replace a2 := (upc_ HB.out a2 :); replace a3 := (upc_ HB.out a3 :); replace a4 := (upc_ HB.out a4 :); replace a5 := (upc_ HB.out a5 :); replace a6 := (upc_ HB.out a6 :); replace p101 := eq_true p101; replace q101 := eq_true q101
      go_wp2_with (first | ((with_reducible refine gc_ 48 rfl ?_); refine gl_ (some 14) rfl Tryd.func48 #[.agg #[.int .i64 ((rd_T59 l0 a1).f0), .int .i64 ((rd_T59 l0 a1).f1), .int .i64 ((rd_T59 l0 a1).f2), .int .i64 ((rd_T59 l0 a1).f3), .int .i64 ((rd_T59 l0 a1).f4)]] ?_; (with_reducible refine (spec_OpOk.calls ((rd_T59 l0 a1).f0) ((rd_T59 l0 a1).f1) ((rd_T59 l0 a1).f2) ((rd_T59 l0 a1).f3) ((rd_T59 l0 a1).f4) false _ A4.out).mono ?_); rintro e w7 ⟨rfl, hb⟩; refine ⟨_, rfl, ?_⟩; replace HB := Aside0.mk (below_step (upH HB.out) hb); (try clear hb)))
      go_ret
      exact ⟨by first | rfl | (simp [*, errW_none, errW_some] <;> rfl), upH HB.out⟩
    ·
     rw [if_neg c3] at H
     exact absurd H (by simp)
   ·
    rw [if_neg c2] at H
    have a8 : decide (a1 < (l0.length : Int)) = false := decide_eq_false c2; clear c2; obtain rfl := Option.some.inj H
    go_wp2
    go_ret
    exact ⟨by first | rfl | (simp [*, errW_none, errW_some] <;> rfl), upH HB.out⟩
end
section
mutual
def spec_l7Path.j0 : Nat → ByteArray → Bool → Option (Bool)
 | 0, _, _ => none
 | k + 1, x0, x11 => if x11 = true then (some false) else (spec_l7Path.l0 k x0 0)
def spec_l7Path.l0 : Nat → ByteArray → Int → Option (Bool)
 | 0, _, _ => none
 | k + 1, x0, x3 => if x3 < (x0.size : Int) then (if 0 ≤ x3 then (if (bt x0 x3) < 97 then (if (bt x0 x3) < 48 then (some false) else (if (bt x0 x3) > 57 then (some false) else (spec_l7Path.l0 k x0 (wrap64 (x3 + 1))))) else (if (bt x0 x3) > 122 then (if (bt x0 x3) < 48 then (some false) else (if (bt x0 x3) > 57 then (some false) else (spec_l7Path.l0 k x0 (wrap64 (x3 + 1))))) else (spec_l7Path.l0 k x0 (wrap64 (x3 + 1))))) else (none)) else (some true)
end
def spec_l7Path.f (k : Nat) (a0 : ByteArray) : Option (Bool) := if (a0.size : Int) = 0 then (spec_l7Path.j0 k a0 true) else (spec_l7Path.j0 k a0 (decide ((a0.size : Int) > 6)))
set_option maxHeartbeats 8000000 in
set_option maxRecDepth 100000 in
theorem spec_l7Path.calls (k : Nat) (a0 : ByteArray) (r : Bool) (w : World) (h : spec_l7Path.f k a0 = some r) :
  Calls Tryd.prog 28 #[.string a0] w fun e w' => e = .returned (.bool r) ∧ Drawn0 w w' := by
 have H : (if (a0.size : Int) = 0 then (spec_l7Path.j0 k a0 true) else (spec_l7Path.j0 k a0 (decide ((a0.size : Int) > 6)))) = some r := h; clear h; have HC2 := Aside0.mk H; clear H
 go_enter Tryd.func28, Tryd.ntmps28
 go_upto_region 1 with (fail)
 go_cut [11] (fun v11 wc => ∃ (kq : Nat) (a3 : Bool), v11 = .bool a3 ∧ Aside0 (spec_l7Path.j0 kq a0 a3 = some r) ∧ Aside0 (kq ≤ k) ∧ Drawn0 w wc)
 case first =>
  have H := HC2.out; clear HC2
  by_cases c3 : (a0.size : Int) = 0
  ·
   rw [if_pos c3] at H
   have a2 := beq_iff_eq.mpr c3; have a4 := bne_eq_false_iff_eq.mpr c3; clear c3
   (first | rw [a2] | (simp only [i64_w, i32_w]; rw [a2]) | skip)
   have H' := Aside0.mk H; clear H
   go_wp2
   go_meet
   case rel => exact ⟨_, (true), (by first | rfl | (simp; done) | (simp [*]; done)), H', ⟨by first | omega | exact Nat.le_refl _⟩, by repeat (first | exact Drawn0.refl _ | apply Drawn0.step)⟩
  ·
   rw [if_neg c3] at H
   have a2 := beq_eq_false_iff_ne.mpr c3; have a4 := bne_iff_ne.mpr c3
   (first | rw [a2] | (simp only [i64_w, i32_w]; rw [a2]) | skip)
   have H' := Aside0.mk H; clear H
   go_wp2
   go_meet
   case rel => exact ⟨_, (decide ((a0.size : Int) > 6)), (by first | rfl | (simp; done) | (simp [*]; done)), H', ⟨by first | omega | exact Nat.le_refl _⟩, by repeat (first | exact Drawn0.refl _ | apply Drawn0.step)⟩
 case rest =>
  clear HC2; (try clear c2); (try clear p2); (try clear c3); (try clear a2); (try clear a4); obtain ⟨kq, a3, rfl, HA, HJ1, ⟨mc1, rfl⟩⟩ := hcut
  cases kq with
  | zero => exact absurd HA.out (by simp [spec_l7Path.j0])
  | succ kj1 =>
   have H := HA.out; clear HA
   simp only [spec_l7Path.j0] at H
   by_cases c4 : a3 = true
   ·
    subst c4
    rw [if_pos rfl] at H
    obtain rfl := Option.some.inj H
    go_wp2
    go_ret
    exact ⟨by first | rfl | (simp; done) | (simp [*]; done), by repeat (first | exact Drawn0.refl _ | apply Drawn0.step)⟩
   ·
    replace c4 := Bool.eq_false_iff.mpr c4
    subst c4
    rw [if_neg (show ¬ (false = true) by decide)] at H
    have H' := Aside0.mk H; clear H
    go_wp2
    (try simp only [Act.put, List.setIfInBounds_toArray, List.set_cons_zero, List.set_cons_succ])
    go_loopg [3] kj1 (fun kq v3 w' => ∃ (a1 : Int), v3 = .int .i64 a1 ∧ Aside0 (spec_l7Path.l0 kq a0 a1 = some r) ∧ Aside0 (kq ≤ kj1) ∧ Drawn0 w w')
    case atStart => exact ⟨(0), (by first | rfl | (simp; done) | (simp [*]; done)), H', ⟨Nat.le_refl _⟩, by repeat (first | exact Drawn0.refl _ | apply Drawn0.step)⟩
    case round =>
     clear H'; (try clear c1); (try clear c2); (try clear p2); (try clear c3); (try clear a2); (try clear a4); (try clear c4); (try clear p2); obtain ⟨a1, rfl, HA, HK2, ⟨m2, rfl⟩⟩ := hrel
     cases gk with
     | zero => exact absurd HA.out (by simp [spec_l7Path.l0])
     | succ k2 =>
      have H := HA.out; clear HA
      simp only [spec_l7Path.l0] at H
      by_cases c5 : a1 < (a0.size : Int)
      ·
       rw [if_pos c5] at H
       have b2 : decide (a1 < (a0.size : Int)) = true := decide_eq_true c5; clear c5
       by_cases c6 : 0 ≤ a1
       ·
        rw [if_pos c6] at H
        replace c6 := decide_eq_true c6
        by_cases c8 : (bt a0 a1) < 97
        ·
         rw [if_pos c8] at H
         have b3 : decide ((bt a0 a1) < 97) = true := decide_eq_true c8; clear c8
         by_cases c10 : (bt a0 a1) < 48
         ·
          rw [if_pos c10] at H
          have a6 : decide ((bt a0 a1) < 48) = true := decide_eq_true c10; clear c10; obtain rfl := Option.some.inj H; have p7 : 0 ≤ (a1 : Int) := of_decide_eq_true (by assumption); have q7 : a1 < (a0.size : Int) := of_decide_eq_true (by assumption); have hx7 := bt_at a0 a1; replace p7 := eq_true p7; replace q7 := eq_true q7; have p9 : 0 ≤ (a1 : Int) := of_decide_eq_true (by assumption); have q9 : a1 < (a0.size : Int) := of_decide_eq_true (by assumption); have hx9 := bt_at a0 a1; replace p9 := eq_true p9; replace q9 := eq_true q9
          go_wp2
          go_ret
          exact ⟨by first | rfl | (simp; done) | (simp [*]; done), by repeat (first | exact Drawn0.refl _ | apply Drawn0.step)⟩
         ·
          rw [if_neg c10] at H
          have a6 : decide ((bt a0 a1) < 48) = false := decide_eq_false c10; clear c10
          by_cases c12 : (bt a0 a1) > 57
          ·
           rw [if_pos c12] at H
           have a7 : decide (57 < (bt a0 a1)) = true := decide_eq_true c12; clear c12; obtain rfl := Option.some.inj H; have p7 : 0 ≤ (a1 : Int) := of_decide_eq_true (by assumption); have q7 : a1 < (a0.size : Int) := of_decide_eq_true (by assumption); have hx7 := bt_at a0 a1; replace p7 := eq_true p7; replace q7 := eq_true q7; have p9 : 0 ≤ (a1 : Int) := of_decide_eq_true (by assumption); have q9 : a1 < (a0.size : Int) := of_decide_eq_true (by assumption); have hx9 := bt_at a0 a1; replace p9 := eq_true p9; replace q9 := eq_true q9; have p11 : 0 ≤ (a1 : Int) := of_decide_eq_true (by assumption); have q11 : a1 < (a0.size : Int) := of_decide_eq_true (by assumption); have b4 := bt_at a0 a1; replace p11 := eq_true p11; replace q11 := eq_true q11
           go_wp2
           go_ret
           exact ⟨by first | rfl | (simp; done) | (simp [*]; done), by repeat (first | exact Drawn0.refl _ | apply Drawn0.step)⟩
          ·
           rw [if_neg c12] at H
           have a7 : decide (57 < (bt a0 a1)) = false := decide_eq_false c12; clear c12; have H' := Aside0.mk H; clear H; have p7 : 0 ≤ (a1 : Int) := of_decide_eq_true (by assumption); have q7 : a1 < (a0.size : Int) := of_decide_eq_true (by assumption); have hx7 := bt_at a0 a1; replace p7 := eq_true p7; replace q7 := eq_true q7; have p9 : 0 ≤ (a1 : Int) := of_decide_eq_true (by assumption); have q9 : a1 < (a0.size : Int) := of_decide_eq_true (by assumption); have hx9 := bt_at a0 a1; replace p9 := eq_true p9; replace q9 := eq_true q9; have p11 : 0 ≤ (a1 : Int) := of_decide_eq_true (by assumption); have q11 : a1 < (a0.size : Int) := of_decide_eq_true (by assumption); have b4 := bt_at a0 a1; replace p11 := eq_true p11; replace q11 := eq_true q11
           go_wp2
           go_roundg k2
           case measure => have := HJ1.out; have := HK2.out; omega
           case rel => exact ⟨(wrap64 (a1 + 1)), (by first | rfl | (simp; done) | (simp [*]; done)), H', ⟨by have := HJ1.out; have := HK2.out; omega⟩, by repeat (first | exact Drawn0.refl _ | apply Drawn0.step)⟩
        ·
         rw [if_neg c8] at H
         have b3 : decide ((bt a0 a1) < 97) = false := decide_eq_false c8; clear c8
         by_cases c14 : (bt a0 a1) > 122
         ·
          rw [if_pos c14] at H
          have a8 : decide (122 < (bt a0 a1)) = true := decide_eq_true c14; clear c14
          by_cases c16 : (bt a0 a1) < 48
          ·
           rw [if_pos c16] at H
           have a9 : decide ((bt a0 a1) < 48) = true := decide_eq_true c16; clear c16; obtain rfl := Option.some.inj H; have p7 : 0 ≤ (a1 : Int) := of_decide_eq_true (by assumption); have q7 : a1 < (a0.size : Int) := of_decide_eq_true (by assumption); have hx7 := bt_at a0 a1; replace p7 := eq_true p7; replace q7 := eq_true q7; have p13 : 0 ≤ (a1 : Int) := of_decide_eq_true (by assumption); have q13 : a1 < (a0.size : Int) := of_decide_eq_true (by assumption); have a5 := bt_at a0 a1; replace p13 := eq_true p13; replace q13 := eq_true q13; have p15 : 0 ≤ (a1 : Int) := of_decide_eq_true (by assumption); have q15 : a1 < (a0.size : Int) := of_decide_eq_true (by assumption); have b0 := bt_at a0 a1; replace p15 := eq_true p15; replace q15 := eq_true q15
           go_wp2
           go_ret
           exact ⟨by first | rfl | (simp; done) | (simp [*]; done), by repeat (first | exact Drawn0.refl _ | apply Drawn0.step)⟩
          ·
           rw [if_neg c16] at H
           have a9 : decide ((bt a0 a1) < 48) = false := decide_eq_false c16; clear c16
           by_cases c18 : (bt a0 a1) > 57
           ·
            rw [if_pos c18] at H
            have b1 : decide (57 < (bt a0 a1)) = true := decide_eq_true c18; clear c18; obtain rfl := Option.some.inj H; have p7 : 0 ≤ (a1 : Int) := of_decide_eq_true (by assumption); have q7 : a1 < (a0.size : Int) := of_decide_eq_true (by assumption); have hx7 := bt_at a0 a1; replace p7 := eq_true p7; replace q7 := eq_true q7; have p13 : 0 ≤ (a1 : Int) := of_decide_eq_true (by assumption); have q13 : a1 < (a0.size : Int) := of_decide_eq_true (by assumption); have a5 := bt_at a0 a1; replace p13 := eq_true p13; replace q13 := eq_true q13; have p15 : 0 ≤ (a1 : Int) := of_decide_eq_true (by assumption); have q15 : a1 < (a0.size : Int) := of_decide_eq_true (by assumption); have b0 := bt_at a0 a1; replace p15 := eq_true p15; replace q15 := eq_true q15; have p17 : 0 ≤ (a1 : Int) := of_decide_eq_true (by assumption); have q17 : a1 < (a0.size : Int) := of_decide_eq_true (by assumption); have b5 := bt_at a0 a1; replace p17 := eq_true p17; replace q17 := eq_true q17
            go_wp2
            go_ret
            exact ⟨by first | rfl | (simp; done) | (simp [*]; done), by repeat (first | exact Drawn0.refl _ | apply Drawn0.step)⟩
           ·
            rw [if_neg c18] at H
            have b1 : decide (57 < (bt a0 a1)) = false := decide_eq_false c18; clear c18; have H' := Aside0.mk H; clear H; have p7 : 0 ≤ (a1 : Int) := of_decide_eq_true (by assumption); have q7 : a1 < (a0.size : Int) := of_decide_eq_true (by assumption); have hx7 := bt_at a0 a1; replace p7 := eq_true p7; replace q7 := eq_true q7; have p13 : 0 ≤ (a1 : Int) := of_decide_eq_true (by assumption); have q13 : a1 < (a0.size : Int) := of_decide_eq_true (by assumption); have a5 := bt_at a0 a1; replace p13 := eq_true p13; replace q13 := eq_true q13; have p15 : 0 ≤ (a1 : Int) := of_decide_eq_true (by assumption); have q15 : a1 < (a0.size : Int) := of_decide_eq_true (by assumption); have b0 := bt_at a0 a1; replace p15 := eq_true p15; replace q15 := eq_true q15; have p17 : 0 ≤ (a1 : Int) := of_decide_eq_true (by assumption); have q17 : a1 < (a0.size : Int) := of_decide_eq_true (by assumption); have b5 := bt_at a0 a1; replace p17 := eq_true p17; replace q17 := eq_true q17
            go_wp2
            go_roundg k2
            case measure => have := HJ1.out; have := HK2.out; omega
            case rel => exact ⟨(wrap64 (a1 + 1)), (by first | rfl | (simp; done) | (simp [*]; done)), H', ⟨by have := HJ1.out; have := HK2.out; omega⟩, by repeat (first | exact Drawn0.refl _ | apply Drawn0.step)⟩
         ·
          rw [if_neg c14] at H
          have a8 : decide (122 < (bt a0 a1)) = false := decide_eq_false c14; clear c14; have H' := Aside0.mk H; clear H; have p7 : 0 ≤ (a1 : Int) := of_decide_eq_true (by assumption); have q7 : a1 < (a0.size : Int) := of_decide_eq_true (by assumption); have hx7 := bt_at a0 a1; replace p7 := eq_true p7; replace q7 := eq_true q7; have p13 : 0 ≤ (a1 : Int) := of_decide_eq_true (by assumption); have q13 : a1 < (a0.size : Int) := of_decide_eq_true (by assumption); have a5 := bt_at a0 a1; replace p13 := eq_true p13; replace q13 := eq_true q13
          go_wp2
          go_roundg k2
          case measure => have := HJ1.out; have := HK2.out; omega
          case rel => exact ⟨(wrap64 (a1 + 1)), (by first | rfl | (simp; done) | (simp [*]; done)), H', ⟨by have := HJ1.out; have := HK2.out; omega⟩, by repeat (first | exact Drawn0.refl _ | apply Drawn0.step)⟩
       ·
        rw [if_neg c6] at H
        exact absurd H (by simp)
      ·
       rw [if_neg c5] at H
       have b2 : decide (a1 < (a0.size : Int)) = false := decide_eq_false c5; clear c5; obtain rfl := Option.some.inj H
       go_wp2
       go_ret
       exact ⟨by first | rfl | (simp; done) | (simp [*]; done), by repeat (first | exact Drawn0.refl _ | apply Drawn0.step)⟩
end
section
open Go.Proofs.YtmbkhindhndccaaDoorW.PrintWords.Aside0 renaming mk → yaa

def spec_AskOk.f (k : Nat) (l0_0 : List (S59)) (a0_1 : ByteArray) (a0_2 : Int) : Option (Bool) := (spec_l6All.f k l0_0).bind fun t102 => (if t102 = true then ((spec_l7Path.f k a0_1).bind fun t103 => (if t103 = true then ((spec_l1In.f a0_2 0 9999).bind fun t104 => (some t104)) else (some false))) else (some false))
set_option maxHeartbeats 8000000 in
set_option maxRecDepth 100000 in
theorem spec_AskOk.calls (k : Nat) (A0_0 : Option Addr) (c0_0 : Nat) (l0_0 : List (S59)) (a0_1 : ByteArray) (a0_2 : Int) (r : Bool) (w : World) (hr0_0 : Kd.C k59 w A0_0 l0_0.length l0_0) (hc0_0 : l0_0.length ≤ c0_0) (h : spec_AskOk.f k l0_0 a0_1 a0_2 = some r) :
  Calls Tryd.prog 13 #[.agg #[.slice A0_0 l0_0.length c0_0, .string a0_1, .int .i64 a0_2]] w fun e w' => e = .returned (.bool r) ∧ Below w.heap.size w w' := by
 have hu31 := Tryd.underlying31; have HR0_0 := yaa hr0_0; have HC0_0 := yaa hc0_0; clear hr0_0 hc0_0; have HB := yaa (Below.refl w.heap.size w); have H : ((spec_l6All.f k l0_0).bind fun a9 => (if a9 = true then ((spec_l7Path.f k a0_1).bind fun b0 => (if b0 = true then ((spec_l1In.f a0_2 0 9999).bind fun b1 => (some b1)) else (some false))) else (some false))) = some r := h; clear h; obtain ⟨a9, A2, H⟩ := bindA H; (try dsimp only at H)
 by_cases c3 : a9 = true
 ·
  subst c3
  rw [if_pos rfl] at H
  obtain ⟨b0, A4, H⟩ := bindA H; (try dsimp only at H)
  by_cases c5 : b0 = true
  ·
   subst c5
   rw [if_pos rfl] at H
   obtain ⟨b1, A6, H⟩ := bindA H; (try dsimp only at H); obtain rfl := Option.some.inj H
   go_enter Tryd.func13, Tryd.ntmps13
   go_wp2_with (first | ((with_reducible refine gd_ 1 rfl ?_); refine bx_ 1 rfl #[.slice A0_0 l0_0.length c0_0, .string a0_1, .int .i64 a0_2] 31 ?_; intro a4 hg w7 hbox hb; have a3 := yaa (hbox); have a5 := yaa ((by rw [hg]; exact (below_size (upH HB.out)) : w.heap.size ≤ a4)); replace HB := yaa (below_step (upH HB.out) hb); have a8 := a5; clear hb hbox hg; obtain ⟨d8, d9, e0⟩ := cc3_ a3.out; obtain ⟨e1, e2⟩ := cf2_ a3.out; have e3 := blk_frozen a3.out 2) | ((with_reducible refine gc_ 27 rfl ?_); refine gl_ (some 5) rfl Tryd.func27 #[.slice A0_0 l0_0.length c0_0] ?_; (with_reducible refine (spec_l6All.calls k _ _ l0_0 true _ ?side1 ?side2 A2.out).mono ?_); (case side1 => repeat (first | exact (Kd.C_below HR0_0.out HB.out) | (with_reducible refine Kd.C_alloc ?_ _) | (with_reducible refine Kd.C_drewN ?_ _) | (with_reducible refine Kd.C_drew ?_))); (case side2 => exact HC0_0.out); rintro e w9 ⟨rfl, hb⟩; refine ⟨_, rfl, ?_⟩; replace a3 := yaa (blk_below (upB a3.out) hb); replace HB := yaa (below_step (by repeat (with_reducible first | exact HB.out | apply below_alloc | apply pw_below_drewN | apply below_drew1 | refine below_set ?_ (Aside0.out ‹_›))) hb); (try clear hb); obtain ⟨b2, b3, b4⟩ := cc3_ a3.out; obtain ⟨b5, b6⟩ := cf2_ a3.out; have b7 := blk_frozen a3.out 2) | (go_at_call 28; (with_reducible refine (spec_l7Path.calls k a0_1 true _ A4.out).mono ?_); rintro e w' ⟨rfl, ⟨nd, rfl⟩⟩) | (go_at_call 29; (with_reducible refine (spec_l1In.calls a0_2 0 9999 b1 _ A6.out).mono ?_); rintro e w' ⟨rfl, ⟨nd, rfl⟩⟩))
   go_ret
   exact ⟨by first | rfl | (simp [*, errW_none, errW_some] <;> rfl), by repeat (with_reducible first | exact HB.out | apply below_alloc | apply pw_below_drewN | apply below_drew1 | refine below_set ?_ (Aside0.out ‹_›))⟩
  ·
   replace c5 := Bool.eq_false_iff.mpr c5
   subst c5
   rw [if_neg (show ¬ (false = true) by decide)] at H
   obtain rfl := Option.some.inj H
   go_enter Tryd.func13, Tryd.ntmps13
   go_wp2_with (first | ((with_reducible refine gd_ 1 rfl ?_); refine bx_ 1 rfl #[.slice A0_0 l0_0.length c0_0, .string a0_1, .int .i64 a0_2] 31 ?_; intro a4 hg w11 hbox hb; have a3 := yaa (hbox); have a5 := yaa ((by rw [hg]; exact (below_size (upH HB.out)) : w.heap.size ≤ a4)); replace HB := yaa (below_step (upH HB.out) hb); have a8 := a5; clear hb hbox hg; obtain ⟨b8, b9, c0⟩ := cc3_ a3.out; obtain ⟨c1, c2⟩ := cf2_ a3.out; have c4 := blk_frozen a3.out 2) | ((with_reducible refine gc_ 27 rfl ?_); refine gl_ (some 5) rfl Tryd.func27 #[.slice A0_0 l0_0.length c0_0] ?_; (with_reducible refine (spec_l6All.calls k _ _ l0_0 true _ ?side1 ?side2 A2.out).mono ?_); (case side1 => repeat (first | exact (Kd.C_below HR0_0.out HB.out) | (with_reducible refine Kd.C_alloc ?_ _) | (with_reducible refine Kd.C_drewN ?_ _) | (with_reducible refine Kd.C_drew ?_))); (case side2 => exact HC0_0.out); rintro e w13 ⟨rfl, hb⟩; refine ⟨_, rfl, ?_⟩; replace a3 := yaa (blk_below (upB a3.out) hb); replace HB := yaa (below_step (by repeat (with_reducible first | exact HB.out | apply below_alloc | apply pw_below_drewN | apply below_drew1 | refine below_set ?_ (Aside0.out ‹_›))) hb); (try clear hb); obtain ⟨c6, c7, c8⟩ := cc3_ a3.out; obtain ⟨c9, d0⟩ := cf2_ a3.out; have d1 := blk_frozen a3.out 2) | (go_at_call 28; (with_reducible refine (spec_l7Path.calls k a0_1 false _ A4.out).mono ?_); rintro e w' ⟨rfl, ⟨nd, rfl⟩⟩))
   go_ret
   exact ⟨by first | rfl | (simp [*, errW_none, errW_some] <;> rfl), by repeat (with_reducible first | exact HB.out | apply below_alloc | apply pw_below_drewN | apply below_drew1 | refine below_set ?_ (Aside0.out ‹_›))⟩
 ·
  replace c3 := Bool.eq_false_iff.mpr c3
  subst c3
  rw [if_neg (show ¬ (false = true) by decide)] at H
  obtain rfl := Option.some.inj H
  go_enter Tryd.func13, Tryd.ntmps13
  go_wp2_with (first | ((with_reducible refine gd_ 1 rfl ?_); refine bx_ 1 rfl #[.slice A0_0 l0_0.length c0_0, .string a0_1, .int .i64 a0_2] 31 ?_; intro a4 hg w15 hbox hb; have a3 := yaa (hbox); have a5 := yaa ((by rw [hg]; exact (below_size (upH HB.out)) : w.heap.size ≤ a4)); replace HB := yaa (below_step (upH HB.out) hb); have a8 := a5; clear hb hbox hg; obtain ⟨d2, d3, d4⟩ := cc3_ a3.out; obtain ⟨d5, d6⟩ := cf2_ a3.out; have d7 := blk_frozen a3.out 2) | ((with_reducible refine gc_ 27 rfl ?_); refine gl_ (some 5) rfl Tryd.func27 #[.slice A0_0 l0_0.length c0_0] ?_; (with_reducible refine (spec_l6All.calls k _ _ l0_0 false _ ?side1 ?side2 A2.out).mono ?_); (case side1 => repeat (first | exact (Kd.C_below HR0_0.out HB.out) | (with_reducible refine Kd.C_alloc ?_ _) | (with_reducible refine Kd.C_drewN ?_ _) | (with_reducible refine Kd.C_drew ?_))); (case side2 => exact HC0_0.out); rintro e w17 ⟨rfl, hb⟩; refine ⟨_, rfl, ?_⟩; replace a3 := yaa (blk_below (upB a3.out) hb); replace HB := yaa (below_step (by repeat (with_reducible first | exact HB.out | apply below_alloc | apply pw_below_drewN | apply below_drew1 | refine below_set ?_ (Aside0.out ‹_›))) hb); (try clear hb)))
  go_ret
  exact ⟨by first | rfl | (simp [*, errW_none, errW_some] <;> rfl), by repeat (with_reducible first | exact HB.out | apply below_alloc | apply pw_below_drewN | apply below_drew1 | refine below_set ?_ (Aside0.out ‹_›))⟩
end
section
def spec_l7Plain.l0 : Nat → Int → ByteArray → Option (ByteArray)
 | 0, _, _ => none
 | k + 1, x0, x3 => if x0 > 9 then ((some (([(wrap64 (48 + (Int.tmod x0 10))) % 256] : List Int) : List Int)).bind fun y101 => (if (strOfNums y101).size + x3.size ≤ 9223372036854775807 then (spec_l7Plain.l0 k (wrap64 (Int.tdiv x0 10)) ((strOfNums y101) ++ x3)) else (none))) else ((some (([(wrap64 (48 + x0)) % 256] : List Int) : List Int)).bind fun y104 => (if (strOfNums y104).size + x3.size ≤ 9223372036854775807 then (some ((strOfNums y104) ++ x3)) else (none)))
def spec_l7Plain.f (k : Nat) (a0 : Int) : Option (ByteArray) := spec_l7Plain.l0 k a0 (⟨#[]⟩ : ByteArray)
set_option maxHeartbeats 8000000 in
set_option maxRecDepth 100000 in
theorem spec_l7Plain.calls (k : Nat) (a0 : Int) (r : ByteArray) (w : World) (h : spec_l7Plain.f k a0 = some r) :
  Calls Tryd.prog 37 #[.int .i64 a0] w fun e w' => e = .returned (.string r) ∧ Below w.heap.size w w' := by
 have HB := Aside0.mk (Below.refl w.heap.size w); have H : (spec_l7Plain.l0 k a0 (⟨#[]⟩ : ByteArray)) = some r := h; clear h; have H' := Aside0.mk H; clear H
 go_enter Tryd.func37, Tryd.ntmps37
 go_wp2
 (try simp only [Act.put, List.setIfInBounds_toArray, List.set_cons_zero, List.set_cons_succ])
 go_loopg [0, 3] k (fun kq v0 v3 w' => ∃ (a1 : Int) (a2 : ByteArray), v0 = .int .i64 a1 ∧ v3 = .string a2 ∧ Aside0 (spec_l7Plain.l0 kq a1 a2 = some r) ∧ Aside0 (kq ≤ k) ∧ Aside0 (Below w.heap.size w w'))
 case atStart => exact ⟨(a0), ((⟨#[]⟩ : ByteArray)), (by first | rfl | (simp; done) | (simp [*]; done)), (by first | rfl | (simp; done) | (simp [*]; done)), H', ⟨Nat.le_refl _⟩, ⟨upH HB.out⟩⟩
 case round =>
  clear H'; obtain ⟨a1, a2, rfl, rfl, HA, HK1, HB⟩ := hrel
  cases gk with
  | zero => exact absurd HA.out (by simp [spec_l7Plain.l0])
  | succ k1 =>
   have H := HA.out; clear HA
   simp only [spec_l7Plain.l0] at H
   by_cases c2 : a1 > 9
   ·
    rw [if_pos c2] at H
    have a5 : decide (9 < a1) = true := decide_eq_true c2; clear c2; obtain ⟨y101, hy101⟩ : ∃ y_ : List Int, y_ = (([(wrap64 (48 + (Int.tmod a1 10))) % 256] : List Int)) := ⟨_, rfl⟩
    replace H : (if (strOfNums y101).size + a2.size ≤ 9223372036854775807 then (spec_l7Plain.l0 k1 (wrap64 (Int.tdiv a1 10)) ((strOfNums y101) ++ a2)) else (none)) = some r := by first | (rw [hy101]; with_reducible exact H) | (have H2_ := (Option.bind_some _ _).symm.trans H; rw [hy101]; with_reducible exact H2_) | (have H2_ := (Option.bind_some _ _).symm.trans H; with_reducible exact H2_) | with_reducible exact H | (rw [hy101]; exact H) | exact H
    have Ny101 := Aside0.mk hy101; clear hy101
    by_cases c3 : (strOfNums y101).size + a2.size ≤ 9223372036854775807
    ·
     rw [if_pos c3] at H
     have a6 := eq_true c3; have a7 : decide ((strOfNums y101).size + a2.size ≤ 9223372036854775807) = true := decide_eq_true c3
     try have a8 : (9223372036854775807 < (strOfNums y101).size + a2.size) = False := eq_false (Nat.not_lt.2 c3)
     have H' := Aside0.mk H; clear H
     go_wp2_with (first | ((with_reducible refine gd_ 10 rfl ?_); refine Kd.R_lit (Kd.int .u8) _ 5 ?hg (N := 10) ?hd (xs := ([(wrap64 (48 + (Int.tmod a1 10))) % 256] : List Int)) (inner := [.int .u8 ((wrap64 (48 + (Int.tmod a1 10))) % 256)]) (ok := fun _ => True) (okp := fun _ => True) ?hr ?hp (fun _ hk => hk) trivial (Below.refl _ _) (Nat.le_refl _) (by simp) ?_; (case hd => rfl); (case hg => rfl); (case hr => first | (go_simp; done) | (go_simp; rfl)); (case hp => exact (Reps.one (show Kd.M (Kd.int .u8) _ _ _ ((wrap64 (48 + (Int.tmod a1 10))) % 256) [.int .u8 ((wrap64 (48 + (Int.tmod a1 10))) % 256)] from rfl) (Reps.none _ _))); intro a9 w4 ho5 hb hg_ hnew_; clear hg_ hnew_; (first | rw [← Ny101.out] at ho5 | (simp only [Int.reduceToNat] at ho5; rw [← Ny101.out] at ho5)); have a3 := Aside0.mk (Kd.R_lower ho5 (below_size (upH HB.out))); replace HB := Aside0.mk (below_step (upH HB.out) hb); clear hb ho5; have hcv6 := own_string (P := Tryd.prog) Tryd.underlying22 Tryd.underlying5 Tryd.underlying9 (Kd.own_of_R a3.out)))
     go_roundg k1
     case measure => have := HK1.out; omega
     case rel => exact ⟨(wrap64 (Int.tdiv a1 10)), ((strOfNums y101) ++ a2), (by first | rfl | (simp; done) | (simp [*]; done)), (by first | rfl | (simp; done) | (simp [*]; done)), H', ⟨by have := HK1.out; omega⟩, ⟨upH HB.out⟩⟩
    ·
     rw [if_neg c3] at H
     exact absurd H (by simp)
   ·
    rw [if_neg c2] at H
    have a5 : decide (9 < a1) = false := decide_eq_false c2; clear c2; obtain ⟨y104, hy104⟩ : ∃ y_ : List Int, y_ = (([(wrap64 (48 + a1)) % 256] : List Int)) := ⟨_, rfl⟩
    replace H : (if (strOfNums y104).size + a2.size ≤ 9223372036854775807 then (some ((strOfNums y104) ++ a2)) else (none)) = some r := by first | (rw [hy104]; with_reducible exact H) | (have H2_ := (Option.bind_some _ _).symm.trans H; rw [hy104]; with_reducible exact H2_) | (have H2_ := (Option.bind_some _ _).symm.trans H; with_reducible exact H2_) | with_reducible exact H | (rw [hy104]; exact H) | exact H
    have Ny104 := Aside0.mk hy104; clear hy104
    by_cases c7 : (strOfNums y104).size + a2.size ≤ 9223372036854775807
    ·
     rw [if_pos c7] at H
     have b0 := eq_true c7; have b1 : decide ((strOfNums y104).size + a2.size ≤ 9223372036854775807) = true := decide_eq_true c7
     try have b2 : (9223372036854775807 < (strOfNums y104).size + a2.size) = False := eq_false (Nat.not_lt.2 c7)
     obtain rfl := Option.some.inj H
     go_wp2_with (first | ((with_reducible refine gd_ 19 rfl ?_); refine Kd.R_lit (Kd.int .u8) _ 5 ?hg (N := 19) ?hd (xs := ([(wrap64 (48 + a1)) % 256] : List Int)) (inner := [.int .u8 ((wrap64 (48 + a1)) % 256)]) (ok := fun _ => True) (okp := fun _ => True) ?hr ?hp (fun _ hk => hk) trivial (Below.refl _ _) (Nat.le_refl _) (by simp) ?_; (case hd => rfl); (case hg => rfl); (case hr => first | (go_simp; done) | (go_simp; rfl)); (case hp => exact (Reps.one (show Kd.M (Kd.int .u8) _ _ _ ((wrap64 (48 + a1)) % 256) [.int .u8 ((wrap64 (48 + a1)) % 256)] from rfl) (Reps.none _ _))); intro b3 w8 ho9 hb hg_ hnew_; clear hg_ hnew_; (first | rw [← Ny104.out] at ho9 | (simp only [Int.reduceToNat] at ho9; rw [← Ny104.out] at ho9)); have a4 := Aside0.mk (Kd.R_lower ho9 (below_size (upH HB.out))); replace HB := Aside0.mk (below_step (upH HB.out) hb); clear hb ho9; have hcv10 := own_string (P := Tryd.prog) Tryd.underlying22 Tryd.underlying5 Tryd.underlying9 (Kd.own_of_R a4.out)))
     go_ret
     exact ⟨by first | rfl | (simp [*, errW_none, errW_some] <;> rfl), upH HB.out⟩
    ·
     rw [if_neg c7] at H
     exact absurd H (by simp)
end
section
open Go.Proofs.YtmbkhindhndccaaDoorW.PrintWords.Reps renaming one → yaa
open Go.Proofs.YtmbkhindhndccaaDoorW.PrintWords.Kd renaming string → yab
open Go.Proofs.YtmbkhindhndccaaDoorW.PrintWords.Aside0 renaming mk → yac

def spec_l7Word.f (a0 : Int) : Option (ByteArray × Int) := (some (([(⟨#[]⟩ : ByteArray), (⟨#[99, 114, 111, 112]⟩ : ByteArray), (⟨#[102, 108, 105, 112, 120]⟩ : ByteArray), (⟨#[102, 108, 105, 112, 121]⟩ : ByteArray), (⟨#[116, 117, 114, 110]⟩ : ByteArray), (⟨#[103, 114, 97, 121]⟩ : ByteArray), (⟨#[98, 108, 117, 114]⟩ : ByteArray), (⟨#[115, 105, 122, 101]⟩ : ByteArray), (⟨#[102, 108, 97, 116]⟩ : ByteArray)] : List ByteArray) : List ByteArray)).bind fun y101 => ((some (([0, 4, 0, 0, 0, 0, 0, 2, 3] : List Int) : List Int)).bind fun y104 => (if 0 ≤ a0 then (if a0 < (y101.length : Int) then (if a0 < (y104.length : Int) then (some (rdOf ByteArray.empty y101 a0, rd y104 a0)) else (none)) else (none)) else (none)))
set_option maxHeartbeats 8000000 in
set_option maxRecDepth 100000 in
theorem spec_l7Word.calls (a0 : Int) (r1 : ByteArray) (r2 : Int) (w : World) (h : spec_l7Word.f a0 = some (r1, r2)) :
  Calls Tryd.prog 68 #[.int .i64 a0] w fun e w' => e = .returned (.tuple #[.string r1, .int .i64 r2]) ∧ Below w.heap.size w w' := by
 have HB := yac (Below.refl w.heap.size w); have H : ((some (([(⟨#[]⟩ : ByteArray), (⟨#[99, 114, 111, 112]⟩ : ByteArray), (⟨#[102, 108, 105, 112, 120]⟩ : ByteArray), (⟨#[102, 108, 105, 112, 121]⟩ : ByteArray), (⟨#[116, 117, 114, 110]⟩ : ByteArray), (⟨#[103, 114, 97, 121]⟩ : ByteArray), (⟨#[98, 108, 117, 114]⟩ : ByteArray), (⟨#[115, 105, 122, 101]⟩ : ByteArray), (⟨#[102, 108, 97, 116]⟩ : ByteArray)] : List ByteArray) : List ByteArray)).bind fun y101 => ((some (([0, 4, 0, 0, 0, 0, 0, 2, 3] : List Int) : List Int)).bind fun y104 => (if 0 ≤ a0 then (if a0 < (y101.length : Int) then (if a0 < (y104.length : Int) then (some (rdOf ByteArray.empty y101 a0, rd y104 a0)) else (none)) else (none)) else (none)))) = some (r1, r2) := h; clear h; obtain ⟨y101, hy101, H⟩ := bindY H; (try dsimp only at H); have Ny101 := yac hy101; clear hy101; obtain ⟨y104, hy104, H⟩ := bindY H; (try dsimp only at H); have Ny104 := yac hy104; clear hy104
 by_cases c2 : 0 ≤ a0
 ·
  rw [if_pos c2] at H
  replace c2 := decide_eq_true c2
  by_cases c3 : a0 < (y101.length : Int)
  ·
   rw [if_pos c3] at H
   replace c3 := decide_eq_true c3
   by_cases c4 : a0 < (y104.length : Int)
   ·
    rw [if_pos c4] at H
    replace c4 := decide_eq_true c4
    simp only [Option.some.injEq, Prod.mk.injEq] at H
    obtain ⟨rfl, rfl⟩ := H
    go_enter Tryd.func68, Tryd.ntmps68
    go_wp2_with (first | ((with_reducible refine gd_ 6 rfl ?_); refine Kd.R_lit yab _ 9 ?hg (N := 6) ?hd (xs := ([(⟨#[]⟩ : ByteArray), (⟨#[99, 114, 111, 112]⟩ : ByteArray), (⟨#[102, 108, 105, 112, 120]⟩ : ByteArray), (⟨#[102, 108, 105, 112, 121]⟩ : ByteArray), (⟨#[116, 117, 114, 110]⟩ : ByteArray), (⟨#[103, 114, 97, 121]⟩ : ByteArray), (⟨#[98, 108, 117, 114]⟩ : ByteArray), (⟨#[115, 105, 122, 101]⟩ : ByteArray), (⟨#[102, 108, 97, 116]⟩ : ByteArray)] : List ByteArray)) (inner := [.string (⟨#[]⟩ : ByteArray), .string (⟨#[99, 114, 111, 112]⟩ : ByteArray), .string (⟨#[102, 108, 105, 112, 120]⟩ : ByteArray), .string (⟨#[102, 108, 105, 112, 121]⟩ : ByteArray), .string (⟨#[116, 117, 114, 110]⟩ : ByteArray), .string (⟨#[103, 114, 97, 121]⟩ : ByteArray), .string (⟨#[98, 108, 117, 114]⟩ : ByteArray), .string (⟨#[115, 105, 122, 101]⟩ : ByteArray), .string (⟨#[102, 108, 97, 116]⟩ : ByteArray)]) (ok := fun _ => True) (okp := fun _ => True) ?hr ?hp (fun _ hk => hk) trivial (Below.refl _ _) (Nat.le_refl _) (by simp) ?_; (case hd => rfl); (case hg => rfl); (case hr => first | (go_simp; done) | (go_simp; rfl)); (case hp => exact (yaa (show Kd.M yab _ _ _ (⟨#[]⟩ : ByteArray) [.string (⟨#[]⟩ : ByteArray)] from rfl) (yaa (show Kd.M yab _ _ _ (⟨#[99, 114, 111, 112]⟩ : ByteArray) [.string (⟨#[99, 114, 111, 112]⟩ : ByteArray)] from rfl) (yaa (show Kd.M yab _ _ _ (⟨#[102, 108, 105, 112, 120]⟩ : ByteArray) [.string (⟨#[102, 108, 105, 112, 120]⟩ : ByteArray)] from rfl) (yaa (show Kd.M yab _ _ _ (⟨#[102, 108, 105, 112, 121]⟩ : ByteArray) [.string (⟨#[102, 108, 105, 112, 121]⟩ : ByteArray)] from rfl) (yaa (show Kd.M yab _ _ _ (⟨#[116, 117, 114, 110]⟩ : ByteArray) [.string (⟨#[116, 117, 114, 110]⟩ : ByteArray)] from rfl) (yaa (show Kd.M yab _ _ _ (⟨#[103, 114, 97, 121]⟩ : ByteArray) [.string (⟨#[103, 114, 97, 121]⟩ : ByteArray)] from rfl) (yaa (show Kd.M yab _ _ _ (⟨#[98, 108, 117, 114]⟩ : ByteArray) [.string (⟨#[98, 108, 117, 114]⟩ : ByteArray)] from rfl) (yaa (show Kd.M yab _ _ _ (⟨#[115, 105, 122, 101]⟩ : ByteArray) [.string (⟨#[115, 105, 122, 101]⟩ : ByteArray)] from rfl) (yaa (show Kd.M yab _ _ _ (⟨#[102, 108, 97, 116]⟩ : ByteArray) [.string (⟨#[102, 108, 97, 116]⟩ : ByteArray)] from rfl) (Reps.none _ _))))))))))); intro a8 w5 ho6 hb hg_ hnew_; clear hg_ hnew_; (first | rw [← Ny101.out] at ho6 | (simp only [Int.reduceToNat] at ho6; rw [← Ny101.out] at ho6)); have a1 := yac (Kd.R_lower ho6 (below_size (upH HB.out))); replace HB := yac (below_step (upH HB.out) hb); clear hb ho6) | ((with_reducible refine gd_ 7 rfl ?_); refine Kd.R_lit (Kd.int .i64) _ 3 ?hg (N := 7) ?hd (xs := ([0, 4, 0, 0, 0, 0, 0, 2, 3] : List Int)) (inner := [.int .i64 0, .int .i64 4, .int .i64 0, .int .i64 0, .int .i64 0, .int .i64 0, .int .i64 0, .int .i64 2, .int .i64 3]) (ok := fun _ => True) (okp := fun _ => True) ?hr ?hp (fun _ hk => hk) trivial (Below.refl _ _) (Nat.le_refl _) (by simp) ?_; (case hd => rfl); (case hg => rfl); (case hr => first | (go_simp; done) | (go_simp; rfl)); (case hp => exact (yaa (show Kd.M (Kd.int .i64) _ _ _ 0 [.int .i64 0] from rfl) (yaa (show Kd.M (Kd.int .i64) _ _ _ 4 [.int .i64 4] from rfl) (yaa (show Kd.M (Kd.int .i64) _ _ _ 0 [.int .i64 0] from rfl) (yaa (show Kd.M (Kd.int .i64) _ _ _ 0 [.int .i64 0] from rfl) (yaa (show Kd.M (Kd.int .i64) _ _ _ 0 [.int .i64 0] from rfl) (yaa (show Kd.M (Kd.int .i64) _ _ _ 0 [.int .i64 0] from rfl) (yaa (show Kd.M (Kd.int .i64) _ _ _ 0 [.int .i64 0] from rfl) (yaa (show Kd.M (Kd.int .i64) _ _ _ 2 [.int .i64 2] from rfl) (yaa (show Kd.M (Kd.int .i64) _ _ _ 3 [.int .i64 3] from rfl) (Reps.none _ _))))))))))); intro a9 w7 ho8 hb hg_ hnew_; clear hg_ hnew_; (first | rw [← Ny104.out] at ho8 | (simp only [Int.reduceToNat] at ho8; rw [← Ny104.out] at ho8)); replace a1 := yac (Kd.R_below (upR a1.out) hb); have a2 := yac (Kd.R_lower ho8 (below_size (upH HB.out))); replace HB := yac (below_step (upH HB.out) hb); clear hb ho8; obtain ⟨Ao9, co9, eo9⟩ := Kd.R_slice a1.out; subst eo9; have p107 : 0 ≤ (a0 : Int) := of_decide_eq_true (by assumption); have q107 : a0 < (y101.length : Int) := of_decide_eq_true (by assumption); obtain ⟨ad107, a5, a3⟩ := Kd.at_string (Kd.R_reads' a1.out).2.2 a0 p107 q107; cases a5; replace p107 := eq_true p107; replace q107 := eq_true q107; obtain ⟨b0, b1, a6⟩ := Kd.R_slice a2.out; subst a6; have p108 : 0 ≤ (a0 : Int) := of_decide_eq_true (by assumption); have q108 : a0 < (y104.length : Int) := of_decide_eq_true (by assumption); obtain ⟨ad108, a7, a4⟩ := Kd.at_int (Kd.R_reads' a2.out).2.2 a0 p108 q108; cases a7; replace p108 := eq_true p108; replace q108 := eq_true q108))
    repeat (go_quiet (first | ((with_reducible refine gd_ 6 rfl ?_); refine Kd.R_lit yab _ 9 ?hg (N := 6) ?hd (xs := ([(⟨#[]⟩ : ByteArray), (⟨#[99, 114, 111, 112]⟩ : ByteArray), (⟨#[102, 108, 105, 112, 120]⟩ : ByteArray), (⟨#[102, 108, 105, 112, 121]⟩ : ByteArray), (⟨#[116, 117, 114, 110]⟩ : ByteArray), (⟨#[103, 114, 97, 121]⟩ : ByteArray), (⟨#[98, 108, 117, 114]⟩ : ByteArray), (⟨#[115, 105, 122, 101]⟩ : ByteArray), (⟨#[102, 108, 97, 116]⟩ : ByteArray)] : List ByteArray)) (inner := [.string (⟨#[]⟩ : ByteArray), .string (⟨#[99, 114, 111, 112]⟩ : ByteArray), .string (⟨#[102, 108, 105, 112, 120]⟩ : ByteArray), .string (⟨#[102, 108, 105, 112, 121]⟩ : ByteArray), .string (⟨#[116, 117, 114, 110]⟩ : ByteArray), .string (⟨#[103, 114, 97, 121]⟩ : ByteArray), .string (⟨#[98, 108, 117, 114]⟩ : ByteArray), .string (⟨#[115, 105, 122, 101]⟩ : ByteArray), .string (⟨#[102, 108, 97, 116]⟩ : ByteArray)]) (ok := fun _ => True) (okp := fun _ => True) ?hr ?hp (fun _ hk => hk) trivial (Below.refl _ _) (Nat.le_refl _) (by simp) ?_; (case hd => rfl); (case hg => rfl); (case hr => first | (go_simp; done) | (go_simp; rfl)); (case hp => exact (yaa (show Kd.M yab _ _ _ (⟨#[]⟩ : ByteArray) [.string (⟨#[]⟩ : ByteArray)] from rfl) (yaa (show Kd.M yab _ _ _ (⟨#[99, 114, 111, 112]⟩ : ByteArray) [.string (⟨#[99, 114, 111, 112]⟩ : ByteArray)] from rfl) (yaa (show Kd.M yab _ _ _ (⟨#[102, 108, 105, 112, 120]⟩ : ByteArray) [.string (⟨#[102, 108, 105, 112, 120]⟩ : ByteArray)] from rfl) (yaa (show Kd.M yab _ _ _ (⟨#[102, 108, 105, 112, 121]⟩ : ByteArray) [.string (⟨#[102, 108, 105, 112, 121]⟩ : ByteArray)] from rfl) (yaa (show Kd.M yab _ _ _ (⟨#[116, 117, 114, 110]⟩ : ByteArray) [.string (⟨#[116, 117, 114, 110]⟩ : ByteArray)] from rfl) (yaa (show Kd.M yab _ _ _ (⟨#[103, 114, 97, 121]⟩ : ByteArray) [.string (⟨#[103, 114, 97, 121]⟩ : ByteArray)] from rfl) (yaa (show Kd.M yab _ _ _ (⟨#[98, 108, 117, 114]⟩ : ByteArray) [.string (⟨#[98, 108, 117, 114]⟩ : ByteArray)] from rfl) (yaa (show Kd.M yab _ _ _ (⟨#[115, 105, 122, 101]⟩ : ByteArray) [.string (⟨#[115, 105, 122, 101]⟩ : ByteArray)] from rfl) (yaa (show Kd.M yab _ _ _ (⟨#[102, 108, 97, 116]⟩ : ByteArray) [.string (⟨#[102, 108, 97, 116]⟩ : ByteArray)] from rfl) (Reps.none _ _))))))))))); intro a8 w5 ho6 hb hg_ hnew_; clear hg_ hnew_; (first | rw [← Ny101.out] at ho6 | (simp only [Int.reduceToNat] at ho6; rw [← Ny101.out] at ho6)); have a1 := yac (Kd.R_lower ho6 (below_size (upH HB.out))); replace HB := yac (below_step (upH HB.out) hb); clear hb ho6) | ((with_reducible refine gd_ 7 rfl ?_); refine Kd.R_lit (Kd.int .i64) _ 3 ?hg (N := 7) ?hd (xs := ([0, 4, 0, 0, 0, 0, 0, 2, 3] : List Int)) (inner := [.int .i64 0, .int .i64 4, .int .i64 0, .int .i64 0, .int .i64 0, .int .i64 0, .int .i64 0, .int .i64 2, .int .i64 3]) (ok := fun _ => True) (okp := fun _ => True) ?hr ?hp (fun _ hk => hk) trivial (Below.refl _ _) (Nat.le_refl _) (by simp) ?_; (case hd => rfl); (case hg => rfl); (case hr => first | (go_simp; done) | (go_simp; rfl)); (case hp => exact (yaa (show Kd.M (Kd.int .i64) _ _ _ 0 [.int .i64 0] from rfl) (yaa (show Kd.M (Kd.int .i64) _ _ _ 4 [.int .i64 4] from rfl) (yaa (show Kd.M (Kd.int .i64) _ _ _ 0 [.int .i64 0] from rfl) (yaa (show Kd.M (Kd.int .i64) _ _ _ 0 [.int .i64 0] from rfl) (yaa (show Kd.M (Kd.int .i64) _ _ _ 0 [.int .i64 0] from rfl) (yaa (show Kd.M (Kd.int .i64) _ _ _ 0 [.int .i64 0] from rfl) (yaa (show Kd.M (Kd.int .i64) _ _ _ 0 [.int .i64 0] from rfl) (yaa (show Kd.M (Kd.int .i64) _ _ _ 2 [.int .i64 2] from rfl) (yaa (show Kd.M (Kd.int .i64) _ _ _ 3 [.int .i64 3] from rfl) (Reps.none _ _))))))))))); intro a9 w7 ho8 hb hg_ hnew_; clear hg_ hnew_; (first | rw [← Ny104.out] at ho8 | (simp only [Int.reduceToNat] at ho8; rw [← Ny104.out] at ho8)); replace a1 := yac (Kd.R_below (upR a1.out) hb); have a2 := yac (Kd.R_lower ho8 (below_size (upH HB.out))); replace HB := yac (below_step (upH HB.out) hb); clear hb ho8; obtain ⟨Ao9, co9, eo9⟩ := Kd.R_slice a1.out; subst eo9; have p107 : 0 ≤ (a0 : Int) := of_decide_eq_true (by assumption); have q107 : a0 < (y101.length : Int) := of_decide_eq_true (by assumption); obtain ⟨ad107, a5, a3⟩ := Kd.at_string (Kd.R_reads' a1.out).2.2 a0 p107 q107; cases a5; replace p107 := eq_true p107; replace q107 := eq_true q107; obtain ⟨b0, b1, a6⟩ := Kd.R_slice a2.out; subst a6; have p108 : 0 ≤ (a0 : Int) := of_decide_eq_true (by assumption); have q108 : a0 < (y104.length : Int) := of_decide_eq_true (by assumption); obtain ⟨ad108, a7, a4⟩ := Kd.at_int (Kd.R_reads' a2.out).2.2 a0 p108 q108; cases a7; replace p108 := eq_true p108; replace q108 := eq_true q108)); try go_wp2_with (first | ((with_reducible refine gd_ 6 rfl ?_); refine Kd.R_lit yab _ 9 ?hg (N := 6) ?hd (xs := ([(⟨#[]⟩ : ByteArray), (⟨#[99, 114, 111, 112]⟩ : ByteArray), (⟨#[102, 108, 105, 112, 120]⟩ : ByteArray), (⟨#[102, 108, 105, 112, 121]⟩ : ByteArray), (⟨#[116, 117, 114, 110]⟩ : ByteArray), (⟨#[103, 114, 97, 121]⟩ : ByteArray), (⟨#[98, 108, 117, 114]⟩ : ByteArray), (⟨#[115, 105, 122, 101]⟩ : ByteArray), (⟨#[102, 108, 97, 116]⟩ : ByteArray)] : List ByteArray)) (inner := [.string (⟨#[]⟩ : ByteArray), .string (⟨#[99, 114, 111, 112]⟩ : ByteArray), .string (⟨#[102, 108, 105, 112, 120]⟩ : ByteArray), .string (⟨#[102, 108, 105, 112, 121]⟩ : ByteArray), .string (⟨#[116, 117, 114, 110]⟩ : ByteArray), .string (⟨#[103, 114, 97, 121]⟩ : ByteArray), .string (⟨#[98, 108, 117, 114]⟩ : ByteArray), .string (⟨#[115, 105, 122, 101]⟩ : ByteArray), .string (⟨#[102, 108, 97, 116]⟩ : ByteArray)]) (ok := fun _ => True) (okp := fun _ => True) ?hr ?hp (fun _ hk => hk) trivial (Below.refl _ _) (Nat.le_refl _) (by simp) ?_; (case hd => rfl); (case hg => rfl); (case hr => first | (go_simp; done) | (go_simp; rfl)); (case hp => exact (yaa (show Kd.M yab _ _ _ (⟨#[]⟩ : ByteArray) [.string (⟨#[]⟩ : ByteArray)] from rfl) (yaa (show Kd.M yab _ _ _ (⟨#[99, 114, 111, 112]⟩ : ByteArray) [.string (⟨#[99, 114, 111, 112]⟩ : ByteArray)] from rfl) (yaa (show Kd.M yab _ _ _ (⟨#[102, 108, 105, 112, 120]⟩ : ByteArray) [.string (⟨#[102, 108, 105, 112, 120]⟩ : ByteArray)] from rfl) (yaa (show Kd.M yab _ _ _ (⟨#[102, 108, 105, 112, 121]⟩ : ByteArray) [.string (⟨#[102, 108, 105, 112, 121]⟩ : ByteArray)] from rfl) (yaa (show Kd.M yab _ _ _ (⟨#[116, 117, 114, 110]⟩ : ByteArray) [.string (⟨#[116, 117, 114, 110]⟩ : ByteArray)] from rfl) (yaa (show Kd.M yab _ _ _ (⟨#[103, 114, 97, 121]⟩ : ByteArray) [.string (⟨#[103, 114, 97, 121]⟩ : ByteArray)] from rfl) (yaa (show Kd.M yab _ _ _ (⟨#[98, 108, 117, 114]⟩ : ByteArray) [.string (⟨#[98, 108, 117, 114]⟩ : ByteArray)] from rfl) (yaa (show Kd.M yab _ _ _ (⟨#[115, 105, 122, 101]⟩ : ByteArray) [.string (⟨#[115, 105, 122, 101]⟩ : ByteArray)] from rfl) (yaa (show Kd.M yab _ _ _ (⟨#[102, 108, 97, 116]⟩ : ByteArray) [.string (⟨#[102, 108, 97, 116]⟩ : ByteArray)] from rfl) (Reps.none _ _))))))))))); intro a8 w5 ho6 hb hg_ hnew_; clear hg_ hnew_; (first | rw [← Ny101.out] at ho6 | (simp only [Int.reduceToNat] at ho6; rw [← Ny101.out] at ho6)); have a1 := yac (Kd.R_lower ho6 (below_size (upH HB.out))); replace HB := yac (below_step (upH HB.out) hb); clear hb ho6) | ((with_reducible refine gd_ 7 rfl ?_); refine Kd.R_lit (Kd.int .i64) _ 3 ?hg (N := 7) ?hd (xs := ([0, 4, 0, 0, 0, 0, 0, 2, 3] : List Int)) (inner := [.int .i64 0, .int .i64 4, .int .i64 0, .int .i64 0, .int .i64 0, .int .i64 0, .int .i64 0, .int .i64 2, .int .i64 3]) (ok := fun _ => True) (okp := fun _ => True) ?hr ?hp (fun _ hk => hk) trivial (Below.refl _ _) (Nat.le_refl _) (by simp) ?_; (case hd => rfl); (case hg => rfl); (case hr => first | (go_simp; done) | (go_simp; rfl)); (case hp => exact (yaa (show Kd.M (Kd.int .i64) _ _ _ 0 [.int .i64 0] from rfl) (yaa (show Kd.M (Kd.int .i64) _ _ _ 4 [.int .i64 4] from rfl) (yaa (show Kd.M (Kd.int .i64) _ _ _ 0 [.int .i64 0] from rfl) (yaa (show Kd.M (Kd.int .i64) _ _ _ 0 [.int .i64 0] from rfl) (yaa (show Kd.M (Kd.int .i64) _ _ _ 0 [.int .i64 0] from rfl) (yaa (show Kd.M (Kd.int .i64) _ _ _ 0 [.int .i64 0] from rfl) (yaa (show Kd.M (Kd.int .i64) _ _ _ 0 [.int .i64 0] from rfl) (yaa (show Kd.M (Kd.int .i64) _ _ _ 2 [.int .i64 2] from rfl) (yaa (show Kd.M (Kd.int .i64) _ _ _ 3 [.int .i64 3] from rfl) (Reps.none _ _))))))))))); intro a9 w7 ho8 hb hg_ hnew_; clear hg_ hnew_; (first | rw [← Ny104.out] at ho8 | (simp only [Int.reduceToNat] at ho8; rw [← Ny104.out] at ho8)); replace a1 := yac (Kd.R_below (upR a1.out) hb); have a2 := yac (Kd.R_lower ho8 (below_size (upH HB.out))); replace HB := yac (below_step (upH HB.out) hb); clear hb ho8; obtain ⟨Ao9, co9, eo9⟩ := Kd.R_slice a1.out; subst eo9; have p107 : 0 ≤ (a0 : Int) := of_decide_eq_true (by assumption); have q107 : a0 < (y101.length : Int) := of_decide_eq_true (by assumption); obtain ⟨ad107, a5, a3⟩ := Kd.at_string (Kd.R_reads' a1.out).2.2 a0 p107 q107; cases a5; replace p107 := eq_true p107; replace q107 := eq_true q107; obtain ⟨b0, b1, a6⟩ := Kd.R_slice a2.out; subst a6; have p108 : 0 ≤ (a0 : Int) := of_decide_eq_true (by assumption); have q108 : a0 < (y104.length : Int) := of_decide_eq_true (by assumption); obtain ⟨ad108, a7, a4⟩ := Kd.at_int (Kd.R_reads' a2.out).2.2 a0 p108 q108; cases a7; replace p108 := eq_true p108; replace q108 := eq_true q108)))
    go_ret2
    exact ⟨by first | rfl | (simp [*, errW_none, errW_some] <;> rfl), upH HB.out⟩
   ·
    rw [if_neg c4] at H
    exact absurd H (by simp)
  ·
   rw [if_neg c3] at H
   exact absurd H (by simp)
 ·
  rw [if_neg c2] at H
  exact absurd H (by simp)
end
section
open Go.Proofs.YtmbkhindhndccaaDoorW.PrintWords.Aside0 renaming mk → yaa
open Go.Proofs.YtmbkhindhndccaaDoorW.PrintWords renaming pw_below_drewN → yab

def spec_OpText.l0 : Nat → ByteArray → Int → List Int → Int → Option (ByteArray)
 | 0, _, _, _, _ => none
 | k + 1, x3, x4, x5, x6 => if x6 < x4 then (if x3.size + 1 ≤ 9223372036854775807 then (if 0 ≤ x6 then (if x6 < (x5.length : Int) then ((spec_l7Plain.f k (rd x5 x6)).bind fun t109 => (if (x3 ++ (⟨#[46]⟩ : ByteArray)).size + t109.size ≤ 9223372036854775807 then (spec_OpText.l0 k ((x3 ++ (⟨#[46]⟩ : ByteArray)) ++ t109) x4 x5 (wrap64 (x6 + 1))) else (none))) else (none)) else (none)) else (none)) else (some x3)
def spec_OpText.f (k : Nat) (a0_0 : Int) (a0_1 : Int) (a0_2 : Int) (a0_3 : Int) (a0_4 : Int) : Option (ByteArray) := (spec_OpOk.f a0_0 a0_1 a0_2 a0_3 a0_4).bind fun t102 => (if t102 = true then ((spec_l7Word.f a0_0).bind fun bt103 => (spec_OpText.l0 k bt103.1 bt103.2 (([a0_1, a0_2, a0_3, a0_4] : List Int)) 0)) else (some (⟨#[]⟩ : ByteArray)))
set_option maxHeartbeats 8000000 in
set_option maxRecDepth 100000 in
theorem spec_OpText.calls (k : Nat) (a0_0 : Int) (a0_1 : Int) (a0_2 : Int) (a0_3 : Int) (a0_4 : Int) (r : ByteArray) (w : World) (h : spec_OpText.f k a0_0 a0_1 a0_2 a0_3 a0_4 = some r) :
  Calls Tryd.prog 59 #[.agg #[.int .i64 a0_0, .int .i64 a0_1, .int .i64 a0_2, .int .i64 a0_3, .int .i64 a0_4]] w fun e w' => e = .returned (.string r) ∧ Below w.heap.size w w' := by
 have hu59 := Tryd.underlying59; have HB := yaa (Below.refl w.heap.size w); have H : ((spec_OpOk.f a0_0 a0_1 a0_2 a0_3 a0_4).bind fun d1 => (if d1 = true then ((spec_l7Word.f a0_0).bind fun c9 => (spec_OpText.l0 k c9.1 c9.2 (([a0_1, a0_2, a0_3, a0_4] : List Int)) 0)) else (some (⟨#[]⟩ : ByteArray)))) = some r := h; clear h; obtain ⟨d1, A2, H⟩ := bindA H; (try dsimp only at H)
 by_cases c3 : d1 = true
 ·
  subst c3
  rw [if_pos rfl] at H
  obtain ⟨⟨d2, a9⟩, A4, H⟩ := bindA H; (try dsimp only at H); obtain ⟨y105, hy105⟩ : ∃ y_ : List Int, y_ = (([a0_1, a0_2, a0_3, a0_4] : List Int)) := ⟨_, rfl⟩
  replace H : (spec_OpText.l0 k d2 a9 y105 0) = some r := by first | (rw [hy105]; with_reducible exact H) | (have H2_ := (Option.bind_some _ _).symm.trans H; rw [hy105]; with_reducible exact H2_) | (have H2_ := (Option.bind_some _ _).symm.trans H; with_reducible exact H2_) | with_reducible exact H | (rw [hy105]; exact H) | exact H
  have Ny105 := yaa hy105; clear hy105; have H' := yaa H; clear H
  go_enter Tryd.func59, Tryd.ntmps59
  go_wp2_with (first | ((with_reducible refine gd_ 1 rfl ?_); refine bx_ 1 rfl #[.int .i64 a0_0, .int .i64 a0_1, .int .i64 a0_2, .int .i64 a0_3, .int .i64 a0_4] 59 ?_; intro a8 hg w5 hbox hb; have a5 := yaa (hbox); have b1 := yaa ((by rw [hg]; exact (below_size (upH HB.out)) : w.heap.size ≤ a8)); replace HB := yaa (below_step (upH HB.out) hb); have f5 := b1; clear hb hbox hg; obtain ⟨d3, d4, d5, d6, d7⟩ := cc5_ a5.out; obtain ⟨d9, e0, e1, e2⟩ := cf4_ a5.out; have e4 := blk_frozen a5.out 4) | ((with_reducible refine gc_ 48 rfl ?_); refine gl_ (some 8) rfl Tryd.func48 #[.agg #[.int .i64 a0_0, .int .i64 a0_1, .int .i64 a0_2, .int .i64 a0_3, .int .i64 a0_4]] ?_; (with_reducible refine (spec_OpOk.calls a0_0 a0_1 a0_2 a0_3 a0_4 true _ A2.out).mono ?_); rintro e w7 ⟨rfl, hb⟩; refine ⟨_, rfl, ?_⟩; replace a5 := yaa (blk_below (upB a5.out) hb); replace HB := yaa (below_step (by repeat (with_reducible first | exact HB.out | apply below_alloc | apply yab | apply below_drew1 | refine below_set ?_ (Aside0.out ‹_›))) hb); (try clear hb); obtain ⟨e5, e6, e7, e8, e9⟩ := cc5_ a5.out; obtain ⟨f0, f1, f2, f3⟩ := cf4_ a5.out; have f4 := blk_frozen a5.out 4) | ((with_reducible refine gc_ 68 rfl ?_); refine gl_ (some 13) rfl Tryd.func68 #[.int .i64 a0_0] ?_; (with_reducible refine (spec_l7Word.calls a0_0 d2 a9 _ A4.out).mono ?_); rintro e w9 ⟨rfl, hb⟩; refine ⟨_, rfl, ?_⟩; replace a5 := yaa (blk_below (upB a5.out) hb); replace HB := yaa (below_step (by repeat (with_reducible first | exact HB.out | apply below_alloc | apply yab | apply below_drew1 | refine below_set ?_ (Aside0.out ‹_›))) hb); (try clear hb); obtain ⟨b5, b6, b7, b8, b9⟩ := cc5_ a5.out; obtain ⟨c0, c1, c2, c7⟩ := cf4_ a5.out; have c8 := blk_frozen a5.out 4) | ((with_reducible refine gd_ 24 rfl ?_); refine Kd.R_lit (Kd.int .i64) _ 3 ?hg (N := 24) ?hd (xs := ([a0_1, a0_2, a0_3, a0_4] : List Int)) (inner := [.int .i64 a0_1, .int .i64 a0_2, .int .i64 a0_3, .int .i64 a0_4]) (ok := fun _ => True) (okp := fun _ => True) ?hr ?hp (fun _ hk => hk) trivial (Below.refl _ _) (Nat.le_refl _) (by simp) ?_; (case hd => rfl); (case hg => rfl); (case hr => first | (go_simp; done) | (go_simp; rfl)); (case hp => exact (Reps.one (show Kd.M (Kd.int .i64) _ _ _ a0_1 [.int .i64 a0_1] from rfl) (Reps.one (show Kd.M (Kd.int .i64) _ _ _ a0_2 [.int .i64 a0_2] from rfl) (Reps.one (show Kd.M (Kd.int .i64) _ _ _ a0_3 [.int .i64 a0_3] from rfl) (Reps.one (show Kd.M (Kd.int .i64) _ _ _ a0_4 [.int .i64 a0_4] from rfl) (Reps.none _ _)))))); intro g8 w11 b2 hb hg_ hnew_; clear hg_ hnew_; (first | rw [← Ny105.out] at b2 | (simp only [Int.reduceToNat] at b2; rw [← Ny105.out] at b2)); have d0 := yaa (Kd.R_lower b2 (below_size (by repeat (with_reducible first | exact HB.out | apply below_alloc | apply yab | apply below_drew1 | refine below_set ?_ (Aside0.out ‹_›))))); replace a5 := yaa (blk_below (upB a5.out) hb); replace HB := yaa (below_step (by repeat (with_reducible first | exact HB.out | apply below_alloc | apply yab | apply below_drew1 | refine below_set ?_ (Aside0.out ‹_›))) hb); clear hb b2))
  (try simp only [Act.put, List.setIfInBounds_toArray, List.set_cons_zero, List.set_cons_succ])
  go_loopg [3, 6] k (fun kq v3 v6 w' => ∃ (a7 : ByteArray) (a6 : Int), v3 = .string a7 ∧ v6 = .int .i64 a6 ∧ Aside0 (spec_OpText.l0 kq a7 a9 y105 a6 = some r) ∧ Aside0 (kq ≤ k) ∧ Aside0 (Kd.R (Kd.int .i64) 3 w' w.heap.size (fun _ => True) g8 y105) ∧ Aside0 (w'.heap[a8]? = some (.cells #[.int .i64 a0_0, .int .i64 a0_1, .int .i64 a0_2, .int .i64 a0_3, .int .i64 a0_4] 59 (0, 0))) ∧ Aside0 (Below w.heap.size w w'))
  case atStart => exact ⟨(d2), (0), (by first | rfl | (simp; done) | (simp [*]; done)), (by first | rfl | (simp; done) | (simp [*]; done)), H', ⟨Nat.le_refl _⟩, ⟨by first | exact d0.out | exact upR d0.out⟩, ⟨by exact upB a5.out⟩, ⟨by repeat (with_reducible first | exact HB.out | apply below_alloc | apply yab | apply below_drew1 | refine below_set ?_ (Aside0.out ‹_›))⟩⟩
  case round =>
   clear H'; (try clear p2); (try clear c3); (try clear c4); (try clear c5); (try clear c6); (try clear b5); (try clear b6); (try clear b7); (try clear b8); (try clear b9); (try clear d3); (try clear d4); (try clear d5); (try clear d6); (try clear d7); (try clear e5); (try clear e6); (try clear e7); (try clear e8); (try clear e9); (try clear c0); (try clear c1); (try clear c2); (try clear c7); (try clear c8); (try clear d9); (try clear e0); (try clear e1); (try clear e2); (try clear e4); (try clear f0); (try clear f1); (try clear f2); (try clear f3); (try clear f4); obtain ⟨a7, a6, rfl, rfl, HA, HK1, b0, a5, HB⟩ := hrel
   cases gk with
   | zero => exact absurd HA.out (by simp [spec_OpText.l0])
   | succ k1 =>
    have H := HA.out; clear HA
    simp only [spec_OpText.l0] at H
    by_cases c13 : a6 < a9
    ·
     rw [if_pos c13] at H
     have f6 : decide (a6 < a9) = true := decide_eq_true c13; clear c13
     by_cases c14 : a7.size + 1 ≤ 9223372036854775807
     ·
      rw [if_pos c14] at H
      have h1 := eq_true c14; have h2 : decide (a7.size + 1 ≤ 9223372036854775807) = true := decide_eq_true c14
      try have h3 : (9223372036854775807 < a7.size + 1) = False := eq_false (Nat.not_lt.2 c14)
      by_cases c15 : 0 ≤ a6
      ·
       rw [if_pos c15] at H
       replace c15 := decide_eq_true c15
       by_cases c16 : a6 < (y105.length : Int)
       ·
        rw [if_pos c16] at H
        replace c16 := decide_eq_true c16; obtain ⟨b3, A17, H⟩ := bindA H; (try dsimp only at H)
        by_cases c18 : (a7 ++ (⟨#[46]⟩ : ByteArray)).size + b3.size ≤ 9223372036854775807
        ·
         rw [if_pos c18] at H
         have h4 := eq_true c18; have h5 : decide ((a7 ++ (⟨#[46]⟩ : ByteArray)).size + b3.size ≤ 9223372036854775807) = true := decide_eq_true c18
         try have h6 : (9223372036854775807 < (a7 ++ (⟨#[46]⟩ : ByteArray)).size + b3.size) = False := eq_false (Nat.not_lt.2 c18)
         try (have b4 := c18; simp only [ByteArray.size_append', ByteArray.size_mk', List.size_toArray, List.length_cons, List.length_nil, Nat.zero_add, Nat.reduceAdd] at b4; replace b4 := eq_false (Nat.not_lt.2 b4))
         have H' := yaa H; clear H; obtain ⟨h7, h8, g9⟩ := Kd.R_slice b0.out; subst g9; have p108 : 0 ≤ (a6 : Int) := of_decide_eq_true (by assumption); have q108 : a6 < (y105.length : Int) := of_decide_eq_true (by assumption); obtain ⟨ad108, h0, f7⟩ := Kd.at_int (Kd.R_reads' b0.out).2.2 a6 p108 q108
         cases h0
         replace p108 := eq_true p108; replace q108 := eq_true q108
         go_wp2_with (first | ((with_reducible refine gc_ 37 rfl ?_); refine gl_ (some 36) rfl Tryd.func37 #[.int .i64 (rd y105 a6)] ?_; (with_reducible refine (spec_l7Plain.calls k1 (rd y105 a6) b3 _ A17.out).mono ?_); rintro e w20 ⟨rfl, hb⟩; refine ⟨_, rfl, ?_⟩; replace b0 := yaa (Kd.R_below (upR b0.out) hb); replace a5 := yaa (blk_below (upB a5.out) hb); replace HB := yaa (below_step (by repeat (with_reducible first | exact HB.out | apply below_alloc | apply yab | apply below_drew1 | refine below_set ?_ (Aside0.out ‹_›))) hb); (try clear hb)))
         go_roundg k1
         case measure => have := HK1.out; omega
         case rel => exact ⟨((a7 ++ (⟨#[46]⟩ : ByteArray)) ++ b3), (wrap64 (a6 + 1)), (by first | rfl | (simp; done) | (simp [*]; done)), (by first | rfl | (simp; done) | (simp [*]; done)), H', ⟨by have := HK1.out; omega⟩, ⟨by first | exact b0.out | exact upR b0.out⟩, ⟨by exact upB a5.out⟩, ⟨by repeat (with_reducible first | exact HB.out | apply below_alloc | apply yab | apply below_drew1 | refine below_set ?_ (Aside0.out ‹_›))⟩⟩
        ·
         rw [if_neg c18] at H
         exact absurd H (by simp)
       ·
        rw [if_neg c16] at H
        exact absurd H (by simp)
      ·
       rw [if_neg c15] at H
       exact absurd H (by simp)
     ·
      rw [if_neg c14] at H
      exact absurd H (by simp)
    ·
     rw [if_neg c13] at H
     have f6 : decide (a6 < a9) = false := decide_eq_false c13; clear c13; obtain rfl := Option.some.inj H
     go_wp2
     go_ret
     exact ⟨by first | rfl | (simp [*, errW_none, errW_some] <;> rfl), by repeat (with_reducible first | exact HB.out | apply below_alloc | apply yab | apply below_drew1 | refine below_set ?_ (Aside0.out ‹_›))⟩
 ·
  replace c3 := Bool.eq_false_iff.mpr c3
  subst c3
  rw [if_neg (show ¬ (false = true) by decide)] at H
  obtain rfl := Option.some.inj H
  go_enter Tryd.func59, Tryd.ntmps59
  go_wp2_with (first | ((with_reducible refine gd_ 1 rfl ?_); refine bx_ 1 rfl #[.int .i64 a0_0, .int .i64 a0_1, .int .i64 a0_2, .int .i64 a0_3, .int .i64 a0_4] 59 ?_; intro a8 hg w21 hbox hb; have a5 := yaa (hbox); have b1 := yaa ((by rw [hg]; exact (below_size (upH HB.out)) : w.heap.size ≤ a8)); replace HB := yaa (below_step (upH HB.out) hb); have f5 := b1; clear hb hbox hg; obtain ⟨f8, f9, g0, g1, g2⟩ := cc5_ a5.out; obtain ⟨g3, g4, g5, g6⟩ := cf4_ a5.out; have g7 := blk_frozen a5.out 4) | ((with_reducible refine gc_ 48 rfl ?_); refine gl_ (some 8) rfl Tryd.func48 #[.agg #[.int .i64 a0_0, .int .i64 a0_1, .int .i64 a0_2, .int .i64 a0_3, .int .i64 a0_4]] ?_; (with_reducible refine (spec_OpOk.calls a0_0 a0_1 a0_2 a0_3 a0_4 false _ A2.out).mono ?_); rintro e w23 ⟨rfl, hb⟩; refine ⟨_, rfl, ?_⟩; replace a5 := yaa (blk_below (upB a5.out) hb); replace HB := yaa (below_step (by repeat (with_reducible first | exact HB.out | apply below_alloc | apply yab | apply below_drew1 | refine below_set ?_ (Aside0.out ‹_›))) hb); (try clear hb)))
  go_ret
  exact ⟨by first | rfl | (simp [*, errW_none, errW_some] <;> rfl), by repeat (with_reducible first | exact HB.out | apply below_alloc | apply yab | apply below_drew1 | refine below_set ?_ (Aside0.out ‹_›))⟩
end
section
def spec_l7Ops.l0 : Nat → List (S59) → ByteArray → Int → Option (ByteArray)
 | 0, _, _, _ => none
 | k + 1, x0, x3, x4 => if x4 < (x0.length : Int) then (if x4 > 0 then (if x3.size + 1 ≤ 9223372036854775807 then (if 0 ≤ x4 then ((spec_OpText.f k ((rd_T59 x0 x4).f0) ((rd_T59 x0 x4).f1) ((rd_T59 x0 x4).f2) ((rd_T59 x0 x4).f3) ((rd_T59 x0 x4).f4)).bind fun t102 => (if (x3 ++ (⟨#[44]⟩ : ByteArray)).size + t102.size ≤ 9223372036854775807 then (spec_l7Ops.l0 k x0 ((x3 ++ (⟨#[44]⟩ : ByteArray)) ++ t102) (wrap64 (x4 + 1))) else (none))) else (none)) else (none)) else (if 0 ≤ x4 then ((spec_OpText.f k ((rd_T59 x0 x4).f0) ((rd_T59 x0 x4).f1) ((rd_T59 x0 x4).f2) ((rd_T59 x0 x4).f3) ((rd_T59 x0 x4).f4)).bind fun t104 => (if x3.size + t104.size ≤ 9223372036854775807 then (spec_l7Ops.l0 k x0 (x3 ++ t104) (wrap64 (x4 + 1))) else (none))) else (none))) else (some x3)
def spec_l7Ops.f (k : Nat) (l0 : List (S59)) : Option (ByteArray) := if (l0.length : Int) = 0 then (some (⟨#[45]⟩ : ByteArray)) else (spec_l7Ops.l0 k l0 (⟨#[]⟩ : ByteArray) 0)
set_option maxHeartbeats 8000000 in
set_option maxRecDepth 100000 in
theorem spec_l7Ops.calls (k : Nat) (A0 : Option Addr) (c0 : Nat) (l0 : List (S59)) (r : ByteArray) (w : World) (hr0 : Kd.C k59 w A0 l0.length l0) (hc0 : l0.length ≤ c0) (h : spec_l7Ops.f k l0 = some r) :
  Calls Tryd.prog 36 #[.slice A0 l0.length c0] w fun e w' => e = .returned (.string r) ∧ Below w.heap.size w w' := by
 have hu59 := Tryd.underlying59; have HR0 := Aside0.mk hr0; have HC0 := Aside0.mk hc0; clear hr0 hc0; have HB := Aside0.mk (Below.refl w.heap.size w); have H : (if (l0.length : Int) = 0 then (some (⟨#[45]⟩ : ByteArray)) else (spec_l7Ops.l0 k l0 (⟨#[]⟩ : ByteArray) 0)) = some r := h; clear h
 by_cases c2 : (l0.length : Int) = 0
 ·
  rw [if_pos c2] at H
  have b6 := beq_iff_eq.mpr c2; have b7 := bne_eq_false_iff_eq.mpr c2; clear c2; obtain rfl := Option.some.inj H
  go_enter Tryd.func36, Tryd.ntmps36
  go_wp2
  go_ret
  exact ⟨by first | rfl | (simp [*, errW_none, errW_some] <;> rfl), upH HB.out⟩
 ·
  rw [if_neg c2] at H
  have b6 := beq_eq_false_iff_ne.mpr c2; have b7 := bne_iff_ne.mpr c2; have b8 : ¬ (l0 = []) := fun h_ => c2 (by rw [h_]; rfl); have H' := Aside0.mk H; clear H
  go_enter Tryd.func36, Tryd.ntmps36
  go_wp2
  (try simp only [Act.put, List.setIfInBounds_toArray, List.set_cons_zero, List.set_cons_succ])
  go_loopg [3, 4] k (fun kq v3 v4 w' => ∃ (a2 : ByteArray) (a1 : Int), v3 = .string a2 ∧ v4 = .int .i64 a1 ∧ Aside0 (spec_l7Ops.l0 kq l0 a2 a1 = some r) ∧ Aside0 (kq ≤ k) ∧ Aside0 (Below w.heap.size w w'))
  case atStart => exact ⟨((⟨#[]⟩ : ByteArray)), (0), (by first | rfl | (simp; done) | (simp [*]; done)), (by first | rfl | (simp; done) | (simp [*]; done)), H', ⟨Nat.le_refl _⟩, ⟨upH HB.out⟩⟩
  case round =>
   clear H'; (try clear c2); (try clear b6); (try clear b7); (try clear b8); (try clear p2); obtain ⟨a2, a1, rfl, rfl, HA, HK1, HB⟩ := hrel
   cases gk with
   | zero => exact absurd HA.out (by simp [spec_l7Ops.l0])
   | succ k1 =>
    have H := HA.out; clear HA
    simp only [spec_l7Ops.l0] at H
    by_cases c3 : a1 < (l0.length : Int)
    ·
     rw [if_pos c3] at H
     have b9 : decide (a1 < (l0.length : Int)) = true := decide_eq_true c3; clear c3
     by_cases c4 : a1 > 0
     ·
      rw [if_pos c4] at H
      have c1 : decide (0 < a1) = true := decide_eq_true c4; clear c4
      by_cases c5 : a2.size + 1 ≤ 9223372036854775807
      ·
       rw [if_pos c5] at H
       have d3 := eq_true c5; have d4 : decide (a2.size + 1 ≤ 9223372036854775807) = true := decide_eq_true c5
       try have d5 : (9223372036854775807 < a2.size + 1) = False := eq_false (Nat.not_lt.2 c5)
       by_cases c6 : 0 ≤ a1
       ·
        rw [if_pos c6] at H
        replace c6 := decide_eq_true c6; obtain ⟨b3, A7, H⟩ := bindA H; (try dsimp only at H)
        by_cases c8 : (a2 ++ (⟨#[44]⟩ : ByteArray)).size + b3.size ≤ 9223372036854775807
        ·
         rw [if_pos c8] at H
         have d6 := eq_true c8; have d7 : decide ((a2 ++ (⟨#[44]⟩ : ByteArray)).size + b3.size ≤ 9223372036854775807) = true := decide_eq_true c8
         try have d8 : (9223372036854775807 < (a2 ++ (⟨#[44]⟩ : ByteArray)).size + b3.size) = False := eq_false (Nat.not_lt.2 c8)
         try (have b5 := c8; simp only [ByteArray.size_append', ByteArray.size_mk', List.size_toArray, List.length_cons, List.length_nil, Nat.zero_add, Nat.reduceAdd] at b5; replace b5 := eq_false (Nat.not_lt.2 b5))
         have H' := Aside0.mk H; clear H; have p101 : 0 ≤ (a1 : Int) := of_decide_eq_true (by assumption); have q101 : a1 < (l0.length : Int) := of_decide_eq_true (by assumption); obtain ⟨ad101, c7, a3, a4, a5, a6, a7⟩ := at_T59 HR0.out a1 p101 q101
         cases c7
         replace a3 := (upc_ HB.out a3 :); replace a4 := (upc_ HB.out a4 :); replace a5 := (upc_ HB.out a5 :); replace a6 := (upc_ HB.out a6 :); replace a7 := (upc_ HB.out a7 :); replace p101 := eq_true p101; replace q101 := eq_true q101
         go_wp2_with (first | ((with_reducible refine gc_ 59 rfl ?_); refine gl_ (some 23) rfl Tryd.func59 #[.agg #[.int .i64 ((rd_T59 l0 a1).f0), .int .i64 ((rd_T59 l0 a1).f1), .int .i64 ((rd_T59 l0 a1).f2), .int .i64 ((rd_T59 l0 a1).f3), .int .i64 ((rd_T59 l0 a1).f4)]] ?_; (with_reducible refine (spec_OpText.calls k1 ((rd_T59 l0 a1).f0) ((rd_T59 l0 a1).f1) ((rd_T59 l0 a1).f2) ((rd_T59 l0 a1).f3) ((rd_T59 l0 a1).f4) b3 _ A7.out).mono ?_); rintro e w9 ⟨rfl, hb⟩; refine ⟨_, rfl, ?_⟩; replace HB := Aside0.mk (below_step (upH HB.out) hb); (try clear hb)))
         go_roundg k1
         case measure => have := HK1.out; omega
         case rel => exact ⟨((a2 ++ (⟨#[44]⟩ : ByteArray)) ++ b3), (wrap64 (a1 + 1)), (by first | rfl | (simp; done) | (simp [*]; done)), (by first | rfl | (simp; done) | (simp [*]; done)), H', ⟨by have := HK1.out; omega⟩, ⟨upH HB.out⟩⟩
        ·
         rw [if_neg c8] at H
         exact absurd H (by simp)
       ·
        rw [if_neg c6] at H
        exact absurd H (by simp)
      ·
       rw [if_neg c5] at H
       exact absurd H (by simp)
     ·
      rw [if_neg c4] at H
      have c1 : decide (0 < a1) = false := decide_eq_false c4; clear c4
      by_cases c10 : 0 ≤ a1
      ·
       rw [if_pos c10] at H
       replace c10 := decide_eq_true c10; obtain ⟨b4, A11, H⟩ := bindA H; (try dsimp only at H)
       by_cases c12 : a2.size + b4.size ≤ 9223372036854775807
       ·
        rw [if_pos c12] at H
        have d0 := eq_true c12; have d1 : decide (a2.size + b4.size ≤ 9223372036854775807) = true := decide_eq_true c12
        try have d2 : (9223372036854775807 < a2.size + b4.size) = False := eq_false (Nat.not_lt.2 c12)
        have H' := Aside0.mk H; clear H; have p103 : 0 ≤ (a1 : Int) := of_decide_eq_true (by assumption); have q103 : a1 < (l0.length : Int) := of_decide_eq_true (by assumption); obtain ⟨ad103, c9, a8, a9, b0, b1, b2⟩ := at_T59 HR0.out a1 p103 q103
        cases c9
        replace a8 := (upc_ HB.out a8 :); replace a9 := (upc_ HB.out a9 :); replace b0 := (upc_ HB.out b0 :); replace b1 := (upc_ HB.out b1 :); replace b2 := (upc_ HB.out b2 :); replace p103 := eq_true p103; replace q103 := eq_true q103
        go_wp2_with (first | ((with_reducible refine gc_ 59 rfl ?_); refine gl_ (some 23) rfl Tryd.func59 #[.agg #[.int .i64 ((rd_T59 l0 a1).f0), .int .i64 ((rd_T59 l0 a1).f1), .int .i64 ((rd_T59 l0 a1).f2), .int .i64 ((rd_T59 l0 a1).f3), .int .i64 ((rd_T59 l0 a1).f4)]] ?_; (with_reducible refine (spec_OpText.calls k1 ((rd_T59 l0 a1).f0) ((rd_T59 l0 a1).f1) ((rd_T59 l0 a1).f2) ((rd_T59 l0 a1).f3) ((rd_T59 l0 a1).f4) b4 _ A11.out).mono ?_); rintro e w13 ⟨rfl, hb⟩; refine ⟨_, rfl, ?_⟩; replace HB := Aside0.mk (below_step (upH HB.out) hb); (try clear hb)))
        go_roundg k1
        case measure => have := HK1.out; omega
        case rel => exact ⟨(a2 ++ b4), (wrap64 (a1 + 1)), (by first | rfl | (simp; done) | (simp [*]; done)), (by first | rfl | (simp; done) | (simp [*]; done)), H', ⟨by have := HK1.out; omega⟩, ⟨upH HB.out⟩⟩
       ·
        rw [if_neg c12] at H
        exact absurd H (by simp)
      ·
       rw [if_neg c10] at H
       exact absurd H (by simp)
    ·
     rw [if_neg c3] at H
     have b9 : decide (a1 < (l0.length : Int)) = false := decide_eq_false c3; clear c3; obtain rfl := Option.some.inj H
     go_wp2
     go_ret
     exact ⟨by first | rfl | (simp [*, errW_none, errW_some] <;> rfl), upH HB.out⟩
end
section
open Go.Proofs.YtmbkhindhndccaaDoorW.PrintWords.Aside0 renaming mk → yaa

abbrev q18_0 : Array Bool := Array.replicate 14 false
abbrev q18_1 : Array Bool := bl_ 14 1
abbrev q18_2 : Array Bool := bl_ 14 33
abbrev q18_3 : Array Bool := bl_ 14 545
abbrev q18_4 : Array Bool := bl_ 14 547
abbrev q18_5 : Array Bool := bl_ 14 611
abbrev q18_6 : Array Bool := bl_ 14 1635
abbrev q18_7 : Array Bool := bl_ 14 1639
abbrev q18_8 : Array Bool := bl_ 14 1647
abbrev q18_9 : Array Bool := bl_ 14 1663
abbrev q18_10 : Array Bool := bl_ 14 1791
abbrev q18_11 : Array Bool := bl_ 14 2047
abbrev q18_12 : Array Bool := bl_ 14 4095
abbrev q18_13 : Array Bool := bl_ 14 8191
abbrev q18_14 : Array Bool := bl_ 14 16383
def spec_AskText.f (k : Nat) (l0_0 : List (S59)) (a0_1 : ByteArray) (a0_2 : Int) : Option (ByteArray) := (spec_AskOk.f k l0_0 a0_1 a0_2).bind fun t102 => (if t102 = true then ((spec_l7Ops.f k l0_0).bind fun t103 => (if 1 + t103.size ≤ 9223372036854775807 then (if ((⟨#[47]⟩ : ByteArray) ++ t103).size + 1 ≤ 9223372036854775807 then (if (((⟨#[47]⟩ : ByteArray) ++ t103) ++ (⟨#[47]⟩ : ByteArray)).size + a0_1.size ≤ 9223372036854775807 then (if ((((⟨#[47]⟩ : ByteArray) ++ t103) ++ (⟨#[47]⟩ : ByteArray)) ++ a0_1).size + 3 ≤ 9223372036854775807 then ((spec_l7Plain.f k a0_2).bind fun t104 => (if (((((⟨#[47]⟩ : ByteArray) ++ t103) ++ (⟨#[47]⟩ : ByteArray)) ++ a0_1) ++ (⟨#[63, 101, 61]⟩ : ByteArray)).size + t104.size ≤ 9223372036854775807 then (some ((((((⟨#[47]⟩ : ByteArray) ++ t103) ++ (⟨#[47]⟩ : ByteArray)) ++ a0_1) ++ (⟨#[63, 101, 61]⟩ : ByteArray)) ++ t104)) else (none))) else (none)) else (none)) else (none)) else (none))) else (some (⟨#[]⟩ : ByteArray)))
def spec_AskText.T3 : Bool × List (List Nat × List Nat) := (true, [([], []), ([0], [0]), ([1], [1]), ([2], [2]), ([3], [3]), ([], []), ([5], [5]), ([4, 6], [4, 6]), ([7], [7]), ([], []), ([9], [9]), ([10, 2], [10]), ([8, 11], [8, 11]), ([12, 11, 0, 1, 2, 3, 4, 5, 6, 7, 8, 9, 10, 11, 12], [12])])
def spec_AskText.B3 : List Nat := [0, 1, 3, 7, 15, 0, 32, 127, 255, 0, 512, 1543, 4095, 8191]
theorem spec_AskText.tab3 : rtab .any (opsOf Tryd.f18 3) = spec_AskText.T3 := by kernel_rfl
theorem spec_AskText.bits3 : waitsOk spec_AskText.T3.2 spec_AskText.B3 = true := by kernel_rfl
set_option maxHeartbeats 8000000 in
set_option maxRecDepth 100000 in
theorem spec_AskText.calls (k : Nat) (A0_0 : Option Addr) (c0_0 : Nat) (l0_0 : List (S59)) (a0_1 : ByteArray) (a0_2 : Int) (r : ByteArray) (w : World) (hr0_0 : Kd.C k59 w A0_0 l0_0.length l0_0) (hc0_0 : l0_0.length ≤ c0_0) (h : spec_AskText.f k l0_0 a0_1 a0_2 = some r) :
  Calls Tryd.prog 18 #[.agg #[.slice A0_0 l0_0.length c0_0, .string a0_1, .int .i64 a0_2]] w fun e w' => e = .returned (.string r) ∧ Below w.heap.size w w' := by
 have hu31 := Tryd.underlying31; have HR0_0 := yaa hr0_0; have HC0_0 := yaa hc0_0; clear hr0_0 hc0_0; have HB := yaa (Below.refl w.heap.size w); have H : ((spec_AskOk.f k l0_0 a0_1 a0_2).bind fun a9 => (if a9 = true then ((spec_l7Ops.f k l0_0).bind fun a4 => (if 1 + a4.size ≤ 9223372036854775807 then (if ((⟨#[47]⟩ : ByteArray) ++ a4).size + 1 ≤ 9223372036854775807 then (if (((⟨#[47]⟩ : ByteArray) ++ a4) ++ (⟨#[47]⟩ : ByteArray)).size + a0_1.size ≤ 9223372036854775807 then (if ((((⟨#[47]⟩ : ByteArray) ++ a4) ++ (⟨#[47]⟩ : ByteArray)) ++ a0_1).size + 3 ≤ 9223372036854775807 then ((spec_l7Plain.f k a0_2).bind fun a6 => (if (((((⟨#[47]⟩ : ByteArray) ++ a4) ++ (⟨#[47]⟩ : ByteArray)) ++ a0_1) ++ (⟨#[63, 101, 61]⟩ : ByteArray)).size + a6.size ≤ 9223372036854775807 then (some ((((((⟨#[47]⟩ : ByteArray) ++ a4) ++ (⟨#[47]⟩ : ByteArray)) ++ a0_1) ++ (⟨#[63, 101, 61]⟩ : ByteArray)) ++ a6)) else (none))) else (none)) else (none)) else (none)) else (none))) else (some (⟨#[]⟩ : ByteArray)))) = some r := h; clear h; obtain ⟨a9, A2, H⟩ := bindA H; (try dsimp only at H)
 by_cases c3 : a9 = true
 ·
  subst c3
  rw [if_pos rfl] at H
  obtain ⟨a4, A4, H⟩ := bindA H; (try dsimp only at H)
  by_cases c5 : 1 + a4.size ≤ 9223372036854775807
  ·
   rw [if_pos c5] at H
   have d6 := eq_true c5; have d7 : decide (1 + a4.size ≤ 9223372036854775807) = true := decide_eq_true c5
   try have d8 : (9223372036854775807 < 1 + a4.size) = False := eq_false (Nat.not_lt.2 c5)
   by_cases c6 : ((⟨#[47]⟩ : ByteArray) ++ a4).size + 1 ≤ 9223372036854775807
   ·
    rw [if_pos c6] at H
    have d9 := eq_true c6; have e0 : decide (((⟨#[47]⟩ : ByteArray) ++ a4).size + 1 ≤ 9223372036854775807) = true := decide_eq_true c6
    try have e1 : (9223372036854775807 < ((⟨#[47]⟩ : ByteArray) ++ a4).size + 1) = False := eq_false (Nat.not_lt.2 c6)
    try (have b0 := c6; simp only [ByteArray.size_append', ByteArray.size_mk', List.size_toArray, List.length_cons, List.length_nil, Nat.zero_add, Nat.reduceAdd] at b0; replace b0 := eq_false (Nat.not_lt.2 b0))
    by_cases c7 : (((⟨#[47]⟩ : ByteArray) ++ a4) ++ (⟨#[47]⟩ : ByteArray)).size + a0_1.size ≤ 9223372036854775807
    ·
     rw [if_pos c7] at H
     have e2 := eq_true c7; have e3 : decide ((((⟨#[47]⟩ : ByteArray) ++ a4) ++ (⟨#[47]⟩ : ByteArray)).size + a0_1.size ≤ 9223372036854775807) = true := decide_eq_true c7
     try have e4 : (9223372036854775807 < (((⟨#[47]⟩ : ByteArray) ++ a4) ++ (⟨#[47]⟩ : ByteArray)).size + a0_1.size) = False := eq_false (Nat.not_lt.2 c7)
     try (have b1 := c7; simp only [ByteArray.size_append', ByteArray.size_mk', List.size_toArray, List.length_cons, List.length_nil, Nat.zero_add, Nat.reduceAdd] at b1; replace b1 := eq_false (Nat.not_lt.2 b1))
     by_cases c8 : ((((⟨#[47]⟩ : ByteArray) ++ a4) ++ (⟨#[47]⟩ : ByteArray)) ++ a0_1).size + 3 ≤ 9223372036854775807
     ·
      rw [if_pos c8] at H
      have e5 := eq_true c8; have e6 : decide (((((⟨#[47]⟩ : ByteArray) ++ a4) ++ (⟨#[47]⟩ : ByteArray)) ++ a0_1).size + 3 ≤ 9223372036854775807) = true := decide_eq_true c8
      try have e7 : (9223372036854775807 < ((((⟨#[47]⟩ : ByteArray) ++ a4) ++ (⟨#[47]⟩ : ByteArray)) ++ a0_1).size + 3) = False := eq_false (Nat.not_lt.2 c8)
      try (have b2 := c8; simp only [ByteArray.size_append', ByteArray.size_mk', List.size_toArray, List.length_cons, List.length_nil, Nat.zero_add, Nat.reduceAdd] at b2; replace b2 := eq_false (Nat.not_lt.2 b2))
      obtain ⟨a6, A9, H⟩ := bindA H; (try dsimp only at H)
      by_cases c10 : (((((⟨#[47]⟩ : ByteArray) ++ a4) ++ (⟨#[47]⟩ : ByteArray)) ++ a0_1) ++ (⟨#[63, 101, 61]⟩ : ByteArray)).size + a6.size ≤ 9223372036854775807
      ·
       rw [if_pos c10] at H
       have d3 := eq_true c10; have d4 : decide ((((((⟨#[47]⟩ : ByteArray) ++ a4) ++ (⟨#[47]⟩ : ByteArray)) ++ a0_1) ++ (⟨#[63, 101, 61]⟩ : ByteArray)).size + a6.size ≤ 9223372036854775807) = true := decide_eq_true c10
       try have d5 : (9223372036854775807 < (((((⟨#[47]⟩ : ByteArray) ++ a4) ++ (⟨#[47]⟩ : ByteArray)) ++ a0_1) ++ (⟨#[63, 101, 61]⟩ : ByteArray)).size + a6.size) = False := eq_false (Nat.not_lt.2 c10)
       try (have a7 := c10; simp only [ByteArray.size_append', ByteArray.size_mk', List.size_toArray, List.length_cons, List.length_nil, Nat.zero_add, Nat.reduceAdd] at a7; replace a7 := eq_false (Nat.not_lt.2 a7))
       obtain rfl := Option.some.inj H
       go_enter Tryd.func18, Tryd.ntmps18
       try go_wp2_with (first | ((with_reducible refine gd_ 1 rfl ?_); refine bx_ 1 rfl #[.slice A0_0 l0_0.length c0_0, .string a0_1, .int .i64 a0_2] 31 ?_; intro a5 hg w11 hbox hb; have a3 := yaa (hbox); have a8 := yaa ((by rw [hg]; exact (below_size (upH HB.out)) : w.heap.size ≤ a5)); replace HB := yaa (below_step (upH HB.out) hb); have b3 := a8; clear hb hbox hg; obtain ⟨b4, b5, b6⟩ := cc3_ a3.out; obtain ⟨b7, b8⟩ := cf2_ a3.out; have b9 := blk_frozen a3.out 2) | ((with_reducible refine gc_ 13 rfl ?_); refine gl_ (some 4) rfl Tryd.func13 #[.agg #[.slice A0_0 l0_0.length c0_0, .string a0_1, .int .i64 a0_2]] ?_; (with_reducible refine (spec_AskOk.calls k _ _ l0_0 a0_1 a0_2 true _ ?side1 ?side2 A2.out).mono ?_); (case side1 => repeat (first | exact (Kd.C_below HR0_0.out HB.out) | (with_reducible refine Kd.C_alloc ?_ _) | (with_reducible refine Kd.C_drewN ?_ _) | (with_reducible refine Kd.C_drew ?_))); (case side2 => exact HC0_0.out); rintro e w13 ⟨rfl, hb⟩; refine ⟨_, rfl, ?_⟩; replace a3 := yaa (blk_below (upB a3.out) hb); replace HB := yaa (below_step (by repeat (with_reducible first | exact HB.out | apply below_alloc | apply pw_below_drewN | apply below_drew1 | refine below_set ?_ (Aside0.out ‹_›))) hb); (try clear hb)))
       replace a3 := yaa (blk_drew a3.out); replace HB := yaa (below_drew1 HB.out)
       refine start_ (n := 14) (S := fun w' => w'.cell? ⟨a5, 0, none⟩ = some (.slice A0_0 l0_0.length c0_0) ∧ w'.cell? ⟨a5, 1, none⟩ = some (.string a0_1) ∧ w'.cell? ⟨a5, 2, none⟩ = some (.int .i64 a0_2)) (ds := []) q18_0 (by kernel_rfl) rfl rfl ⟨(blk_cell a3.out 0).trans rfl, (blk_cell a3.out 1).trans rfl, (blk_cell a3.out 2).trans rfl⟩ (fun hHeld => ?_); refine with_tabW spec_AskText.tab3 spec_AskText.bits3 (fun HT_ HW_ => ?_)
       generalize w13.drew = w14 at a3 HB hHeld ⊢
       refine pz_ 0 6 q18_1 HT_ (by kernel_rfl) ?_
       refine pz_ 5 11 q18_2 HT_ (by kernel_rfl) ?_
       refine pz_ 9 15 q18_3 HT_ (by kernel_rfl) ?_
       refine tz_ 1 7 q18_4 HT_ HW_ (by kernel_rfl) hHeld ?_
       refine tz_ 6 12 q18_5 HT_ HW_ (by kernel_rfl) hHeld ?_
       refine tz_ 10 16 q18_6 HT_ HW_ (by kernel_rfl) hHeld ?_
       refine one_ (i := 2) (N := some 8) q18_7 rfl rfl (one_of HT_.out (by kernel_rfl)) (by decide) (fun K hK => ?_)
       refine goes_ Tryd.func36 (by kernel_rfl) rfl #[.slice A0_0 l0_0.length c0_0] (by rfl) rfl rfl (by (try simp only [List.map_toArray, List.map_cons, List.map_nil]); first | done | rfl | (simp only [List.length_drop, List.length_take]; rfl)) ?_
       with_reducible refine (spec_l7Ops.calls k _ _ l0_0 a4 _ ?side1 ?side2 A4.out).mono ?_
       (case side1 => repeat (first | exact (Kd.C_below HR0_0.out HB.out) | (with_reducible refine Kd.C_alloc ?_ _) | (with_reducible refine Kd.C_drewN ?_ _) | (with_reducible refine Kd.C_drew ?_)))
       (case side2 => exact HC0_0.out)
       rintro e w15 ⟨rfl, hb⟩; refine ⟨_, rfl, ?_⟩; have n0_ := yaa (blk_below (upB a3.out) hb)
       have n1_ := yaa (below_step (by repeat (with_reducible first | exact HB.out | apply below_alloc | apply pw_below_drewN | apply below_drew1 | refine below_set ?_ (Aside0.out ‹_›))) hb)
       clear a3; clear HB; have a3 := n0_; have HB := n1_; clear n0_ n1_; (try clear hb); (try clear hb2); (try clear hk); (try clear hi)
       refine hK.out _ _ ⟨(blk_cell a3.out 0).trans rfl, (blk_cell a3.out 1).trans rfl, (blk_cell a3.out 2).trans rfl⟩ (fun hHeld => ?_)
       clear hK K
       refine norm_ (a' := ?_) ?_ ?_
       rotate_left
       ·
        show Act.put _ (some 8) _ = _
        simp only [Act.put, List.setIfInBounds_toArray, List.set_cons_zero, List.set_cons_succ, i64_w, i32_w]
        rfl
       refine pz_ 3 9 q18_8 HT_ (by kernel_rfl) ?_
       refine pz_ 4 10 q18_9 HT_ (by kernel_rfl) ?_
       refine pz_ 7 13 q18_10 HT_ (by kernel_rfl) ?_
       refine pz_ 8 14 q18_11 HT_ (by kernel_rfl) ?_
       refine one_ (i := 11) (N := some 17) q18_12 rfl rfl (one_of HT_.out (by kernel_rfl)) (by decide) (fun K hK => ?_)
       refine goes_ Tryd.func37 (by kernel_rfl) rfl #[.int .i64 a0_2] (by rfl) rfl rfl (by (try simp only [List.map_toArray, List.map_cons, List.map_nil]); first | done | rfl | (simp only [List.length_drop, List.length_take]; rfl)) ?_
       with_reducible refine (spec_l7Plain.calls k a0_2 a6 _ A9.out).mono ?_
       rintro e w16 ⟨rfl, hb⟩; refine ⟨_, rfl, ?_⟩; have n0_ := yaa (blk_below (upB a3.out) hb)
       have n1_ := yaa (below_step (by repeat (with_reducible first | exact HB.out | apply below_alloc | apply pw_below_drewN | apply below_drew1 | refine below_set ?_ (Aside0.out ‹_›))) hb)
       clear a3; clear HB; have a3 := n0_; have HB := n1_; clear n0_ n1_; (try clear hb); (try clear hb2); (try clear hk); (try clear hi)
       refine hK.out _ _ ⟨(blk_cell a3.out 0).trans rfl, (blk_cell a3.out 1).trans rfl, (blk_cell a3.out 2).trans rfl⟩ (fun hHeld => ?_)
       clear hK K
       refine norm_ (a' := ?_) ?_ ?_
       rotate_left
       ·
        show Act.put _ (some 17) _ = _
        simp only [Act.put, List.setIfInBounds_toArray, List.set_cons_zero, List.set_cons_succ, i64_w, i32_w]
        rfl
       refine pz_ 12 18 q18_13 HT_ (by kernel_rfl) ?_
       refine pz_ 13 2 q18_14 HT_ (by kernel_rfl) ?_
       refine done_ (done_of HT_.out (by kernel_rfl)) ?_
       try go_wp2
       go_ret
       exact ⟨by first | rfl | (simp [*, errW_none, errW_some] <;> rfl), by repeat (with_reducible first | exact HB.out | apply below_alloc | apply pw_below_drewN | apply below_drew1 | refine below_set ?_ (Aside0.out ‹_›))⟩
      ·
       rw [if_neg c10] at H
       exact absurd H (by simp)
     ·
      rw [if_neg c8] at H
      exact absurd H (by simp)
    ·
     rw [if_neg c7] at H
     exact absurd H (by simp)
   ·
    rw [if_neg c6] at H
    exact absurd H (by simp)
  ·
   rw [if_neg c5] at H
   exact absurd H (by simp)
 ·
  replace c3 := Bool.eq_false_iff.mpr c3
  subst c3
  rw [if_neg (show ¬ (false = true) by decide)] at H
  obtain rfl := Option.some.inj H
  go_enter Tryd.func18, Tryd.ntmps18
  go_wp2_with (first | ((with_reducible refine gd_ 1 rfl ?_); refine bx_ 1 rfl #[.slice A0_0 l0_0.length c0_0, .string a0_1, .int .i64 a0_2] 31 ?_; intro a5 hg w17 hbox hb; have a3 := yaa (hbox); have a8 := yaa ((by rw [hg]; exact (below_size (upH HB.out)) : w.heap.size ≤ a5)); replace HB := yaa (below_step (upH HB.out) hb); have b3 := a8; clear hb hbox hg; obtain ⟨c0, c1, c2⟩ := cc3_ a3.out; obtain ⟨c4, c9⟩ := cf2_ a3.out; have d0 := blk_frozen a3.out 2) | ((with_reducible refine gc_ 13 rfl ?_); refine gl_ (some 4) rfl Tryd.func13 #[.agg #[.slice A0_0 l0_0.length c0_0, .string a0_1, .int .i64 a0_2]] ?_; (with_reducible refine (spec_AskOk.calls k _ _ l0_0 a0_1 a0_2 false _ ?side1 ?side2 A2.out).mono ?_); (case side1 => repeat (first | exact (Kd.C_below HR0_0.out HB.out) | (with_reducible refine Kd.C_alloc ?_ _) | (with_reducible refine Kd.C_drewN ?_ _) | (with_reducible refine Kd.C_drew ?_))); (case side2 => exact HC0_0.out); rintro e w19 ⟨rfl, hb⟩; refine ⟨_, rfl, ?_⟩; replace a3 := yaa (blk_below (upB a3.out) hb); replace HB := yaa (below_step (by repeat (with_reducible first | exact HB.out | apply below_alloc | apply pw_below_drewN | apply below_drew1 | refine below_set ?_ (Aside0.out ‹_›))) hb); (try clear hb)))
  go_ret
  exact ⟨by first | rfl | (simp [*, errW_none, errW_some] <;> rfl), by repeat (with_reducible first | exact HB.out | apply below_alloc | apply pw_below_drewN | apply below_drew1 | refine below_set ?_ (Aside0.out ‹_›))⟩
end
section
def spec_HexText.l0 : Nat → List Int → ByteArray → Int → Option (ByteArray)
 | 0, _, _, _ => none
 | k + 1, x0, x3, x4 => if x4 < (x0.length : Int) then (if 0 ≤ x4 then (if 0 ≤ ((Int.tdiv (rd x0 x4) 16) % 256) then (if ((Int.tdiv (rd x0 x4) 16) % 256) ≤ ((((Int.tdiv (rd x0 x4) 16) % 256) + 1) % 256) then (if ((((Int.tdiv (rd x0 x4) 16) % 256) + 1) % 256) ≤ 16 then (if x3.size + ((⟨#[48, 49, 50, 51, 52, 53, 54, 55, 56, 57, 97, 98, 99, 100, 101, 102]⟩ : ByteArray).extract (((Int.tdiv (rd x0 x4) 16) % 256) : Int).toNat (((((Int.tdiv (rd x0 x4) 16) % 256) + 1) % 256) : Int).toNat).size ≤ 9223372036854775807 then (if 0 ≤ (Int.tmod (rd x0 x4) 16) then (if (Int.tmod (rd x0 x4) 16) ≤ (((Int.tmod (rd x0 x4) 16) + 1) % 256) then (if (((Int.tmod (rd x0 x4) 16) + 1) % 256) ≤ 16 then (if (x3 ++ ((⟨#[48, 49, 50, 51, 52, 53, 54, 55, 56, 57, 97, 98, 99, 100, 101, 102]⟩ : ByteArray).extract (((Int.tdiv (rd x0 x4) 16) % 256) : Int).toNat (((((Int.tdiv (rd x0 x4) 16) % 256) + 1) % 256) : Int).toNat)).size + ((⟨#[48, 49, 50, 51, 52, 53, 54, 55, 56, 57, 97, 98, 99, 100, 101, 102]⟩ : ByteArray).extract ((Int.tmod (rd x0 x4) 16) : Int).toNat ((((Int.tmod (rd x0 x4) 16) + 1) % 256) : Int).toNat).size ≤ 9223372036854775807 then (spec_HexText.l0 k x0 ((x3 ++ ((⟨#[48, 49, 50, 51, 52, 53, 54, 55, 56, 57, 97, 98, 99, 100, 101, 102]⟩ : ByteArray).extract (((Int.tdiv (rd x0 x4) 16) % 256) : Int).toNat (((((Int.tdiv (rd x0 x4) 16) % 256) + 1) % 256) : Int).toNat)) ++ ((⟨#[48, 49, 50, 51, 52, 53, 54, 55, 56, 57, 97, 98, 99, 100, 101, 102]⟩ : ByteArray).extract ((Int.tmod (rd x0 x4) 16) : Int).toNat ((((Int.tmod (rd x0 x4) 16) + 1) % 256) : Int).toNat)) (wrap64 (x4 + 1))) else (none)) else (none)) else (none)) else (none)) else (none)) else (none)) else (none)) else (none)) else (none)) else (some x3)
def spec_HexText.f (k : Nat) (l0 : List Int) : Option (ByteArray) := spec_HexText.l0 k l0 (⟨#[]⟩ : ByteArray) 0
set_option maxHeartbeats 8000000 in
set_option maxRecDepth 100000 in
theorem spec_HexText.calls (k : Nat) (A0 : Option Addr) (c0 : Nat) (l0 : List Int) (r : ByteArray) (w : World) (hr0 : Kd.C (Kd.int .u8) w A0 l0.length l0) (hc0 : l0.length ≤ c0) (h : spec_HexText.f k l0 = some r) :
  Calls Tryd.prog 38 #[.slice A0 l0.length c0] w fun e w' => e = .returned (.string r) ∧ Drawn0 w w' := by
 have HR0 := Aside0.mk hr0; have HC0 := Aside0.mk hc0; clear hr0 hc0; have H : (spec_HexText.l0 k l0 (⟨#[]⟩ : ByteArray) 0) = some r := h; clear h; have H' := Aside0.mk H; clear H
 go_enter Tryd.func38, Tryd.ntmps38
 go_wp2
 repeat (go_quiet (fail); try go_wp2)
 (try simp only [Act.put, List.setIfInBounds_toArray, List.set_cons_zero, List.set_cons_succ])
 go_loopg [3, 4] k (fun kq v3 v4 w' => ∃ (a2 : ByteArray) (a1 : Int), v3 = .string a2 ∧ v4 = .int .i64 a1 ∧ Aside0 (spec_HexText.l0 kq l0 a2 a1 = some r) ∧ Aside0 (kq ≤ k) ∧ Drawn0 w w')
 case atStart => exact ⟨((⟨#[]⟩ : ByteArray)), (0), (by first | rfl | (simp; done) | (simp [*]; done)), (by first | rfl | (simp; done) | (simp [*]; done)), H', ⟨Nat.le_refl _⟩, by repeat (first | exact Drawn0.refl _ | apply Drawn0.step)⟩
 case round =>
  clear H'; obtain ⟨a2, a1, rfl, rfl, HA, HK1, ⟨m1, rfl⟩⟩ := hrel
  cases gk with
  | zero => exact absurd HA.out (by simp [spec_HexText.l0])
  | succ k1 =>
   have H := HA.out; clear HA
   simp only [spec_HexText.l0] at H
   by_cases c2 : a1 < (l0.length : Int)
   ·
    rw [if_pos c2] at H
    have a8 : decide (a1 < (l0.length : Int)) = true := decide_eq_true c2; clear c2
    by_cases c3 : 0 ≤ a1
    ·
     rw [if_pos c3] at H
     replace c3 := decide_eq_true c3; obtain ⟨ji4, hji4⟩ : ∃ j_ : Int, ((Int.tdiv (rd l0 a1) 16) % 256) = j_ := ⟨_, rfl⟩
     try have hji4w : (IntKind.u8.wrap ((Int.tdiv (rd l0 a1) 16))) = ji4 := (IntKind.wrap_u8 _).trans hji4
     try have hji4x : IntKind.u8.wrap (ji4 + 1) = (ji4 + 1) % 256 := IntKind.wrap_u8 _
     replace H : (if 0 ≤ (ji4) then (if (ji4) ≤ (((ji4) + 1) % 256) then (if (((ji4) + 1) % 256) ≤ 16 then (if a2.size + ((⟨#[48, 49, 50, 51, 52, 53, 54, 55, 56, 57, 97, 98, 99, 100, 101, 102]⟩ : ByteArray).extract ((ji4) : Int).toNat ((((ji4) + 1) % 256) : Int).toNat).size ≤ 9223372036854775807 then (if 0 ≤ (Int.tmod (rd l0 a1) 16) then (if (Int.tmod (rd l0 a1) 16) ≤ (((Int.tmod (rd l0 a1) 16) + 1) % 256) then (if (((Int.tmod (rd l0 a1) 16) + 1) % 256) ≤ 16 then (if (a2 ++ ((⟨#[48, 49, 50, 51, 52, 53, 54, 55, 56, 57, 97, 98, 99, 100, 101, 102]⟩ : ByteArray).extract ((ji4) : Int).toNat ((((ji4) + 1) % 256) : Int).toNat)).size + ((⟨#[48, 49, 50, 51, 52, 53, 54, 55, 56, 57, 97, 98, 99, 100, 101, 102]⟩ : ByteArray).extract ((Int.tmod (rd l0 a1) 16) : Int).toNat ((((Int.tmod (rd l0 a1) 16) + 1) % 256) : Int).toNat).size ≤ 9223372036854775807 then (spec_HexText.l0 k1 l0 ((a2 ++ ((⟨#[48, 49, 50, 51, 52, 53, 54, 55, 56, 57, 97, 98, 99, 100, 101, 102]⟩ : ByteArray).extract ((ji4) : Int).toNat ((((ji4) + 1) % 256) : Int).toNat)) ++ ((⟨#[48, 49, 50, 51, 52, 53, 54, 55, 56, 57, 97, 98, 99, 100, 101, 102]⟩ : ByteArray).extract ((Int.tmod (rd l0 a1) 16) : Int).toNat ((((Int.tmod (rd l0 a1) 16) + 1) % 256) : Int).toNat)) (wrap64 (a1 + 1))) else (none)) else (none)) else (none)) else (none)) else (none)) else (none)) else (none)) else (none)) = some r := by first | (rw [hji4] at H; exact H) | (simp only [hji4] at H ⊢; exact H)
     by_cases c5 : 0 ≤ (ji4)
     ·
      rw [if_pos c5] at H
      have c4 := eq_true c5; replace c5 := decide_eq_true c5
      by_cases c6 : (ji4) ≤ (((ji4) + 1) % 256)
      ·
       rw [if_pos c6] at H
       have c9 := eq_true c6; have d0 : decide ((ji4) ≤ (((ji4) + 1) % 256)) = true := decide_eq_true c6
       by_cases c7 : (((ji4) + 1) % 256) ≤ 16
       ·
        rw [if_pos c7] at H
        have d1 := eq_true c7; have d2 : decide ((((ji4) + 1) % 256) ≤ 16) = true := decide_eq_true c7
        by_cases c8 : a2.size + ((⟨#[48, 49, 50, 51, 52, 53, 54, 55, 56, 57, 97, 98, 99, 100, 101, 102]⟩ : ByteArray).extract ((ji4) : Int).toNat ((((ji4) + 1) % 256) : Int).toNat).size ≤ 9223372036854775807
        ·
         rw [if_pos c8] at H
         have d3 := eq_true c8; have d4 : decide (a2.size + ((⟨#[48, 49, 50, 51, 52, 53, 54, 55, 56, 57, 97, 98, 99, 100, 101, 102]⟩ : ByteArray).extract ((ji4) : Int).toNat ((((ji4) + 1) % 256) : Int).toNat).size ≤ 9223372036854775807) = true := decide_eq_true c8
         try have d5 : (9223372036854775807 < a2.size + ((⟨#[48, 49, 50, 51, 52, 53, 54, 55, 56, 57, 97, 98, 99, 100, 101, 102]⟩ : ByteArray).extract ((ji4) : Int).toNat ((((ji4) + 1) % 256) : Int).toNat).size) = False := eq_false (Nat.not_lt.2 c8)
         obtain ⟨ji9, hji9⟩ : ∃ j_ : Int, (Int.tmod (rd l0 a1) 16) = j_ := ⟨_, rfl⟩
         try have hji9x : IntKind.u8.wrap (ji9 + 1) = (ji9 + 1) % 256 := IntKind.wrap_u8 _
         replace H : (if 0 ≤ (ji9) then (if (ji9) ≤ (((ji9) + 1) % 256) then (if (((ji9) + 1) % 256) ≤ 16 then (if (a2 ++ ((⟨#[48, 49, 50, 51, 52, 53, 54, 55, 56, 57, 97, 98, 99, 100, 101, 102]⟩ : ByteArray).extract ((ji4) : Int).toNat ((((ji4) + 1) % 256) : Int).toNat)).size + ((⟨#[48, 49, 50, 51, 52, 53, 54, 55, 56, 57, 97, 98, 99, 100, 101, 102]⟩ : ByteArray).extract ((ji9) : Int).toNat ((((ji9) + 1) % 256) : Int).toNat).size ≤ 9223372036854775807 then (spec_HexText.l0 k1 l0 ((a2 ++ ((⟨#[48, 49, 50, 51, 52, 53, 54, 55, 56, 57, 97, 98, 99, 100, 101, 102]⟩ : ByteArray).extract ((ji4) : Int).toNat ((((ji4) + 1) % 256) : Int).toNat)) ++ ((⟨#[48, 49, 50, 51, 52, 53, 54, 55, 56, 57, 97, 98, 99, 100, 101, 102]⟩ : ByteArray).extract ((ji9) : Int).toNat ((((ji9) + 1) % 256) : Int).toNat)) (wrap64 (a1 + 1))) else (none)) else (none)) else (none)) else (none)) = some r := by first | (rw [hji9] at H; exact H) | (simp only [hji9] at H ⊢; exact H)
         by_cases c10 : 0 ≤ (ji9)
         ·
          rw [if_pos c10] at H
          have b3 := eq_true c10; replace c10 := decide_eq_true c10
          by_cases c11 : (ji9) ≤ (((ji9) + 1) % 256)
          ·
           rw [if_pos c11] at H
           have b4 := eq_true c11; have b5 : decide ((ji9) ≤ (((ji9) + 1) % 256)) = true := decide_eq_true c11
           by_cases c12 : (((ji9) + 1) % 256) ≤ 16
           ·
            rw [if_pos c12] at H
            have b6 := eq_true c12; have b7 : decide ((((ji9) + 1) % 256) ≤ 16) = true := decide_eq_true c12
            by_cases c13 : (a2 ++ ((⟨#[48, 49, 50, 51, 52, 53, 54, 55, 56, 57, 97, 98, 99, 100, 101, 102]⟩ : ByteArray).extract ((ji4) : Int).toNat ((((ji4) + 1) % 256) : Int).toNat)).size + ((⟨#[48, 49, 50, 51, 52, 53, 54, 55, 56, 57, 97, 98, 99, 100, 101, 102]⟩ : ByteArray).extract ((ji9) : Int).toNat ((((ji9) + 1) % 256) : Int).toNat).size ≤ 9223372036854775807
            ·
             rw [if_pos c13] at H
             have b8 := eq_true c13; have b9 : decide ((a2 ++ ((⟨#[48, 49, 50, 51, 52, 53, 54, 55, 56, 57, 97, 98, 99, 100, 101, 102]⟩ : ByteArray).extract ((ji4) : Int).toNat ((((ji4) + 1) % 256) : Int).toNat)).size + ((⟨#[48, 49, 50, 51, 52, 53, 54, 55, 56, 57, 97, 98, 99, 100, 101, 102]⟩ : ByteArray).extract ((ji9) : Int).toNat ((((ji9) + 1) % 256) : Int).toNat).size ≤ 9223372036854775807) = true := decide_eq_true c13
             try have c1 : (9223372036854775807 < (a2 ++ ((⟨#[48, 49, 50, 51, 52, 53, 54, 55, 56, 57, 97, 98, 99, 100, 101, 102]⟩ : ByteArray).extract ((ji4) : Int).toNat ((((ji4) + 1) % 256) : Int).toNat)).size + ((⟨#[48, 49, 50, 51, 52, 53, 54, 55, 56, 57, 97, 98, 99, 100, 101, 102]⟩ : ByteArray).extract ((ji9) : Int).toNat ((((ji9) + 1) % 256) : Int).toNat).size) = False := eq_false (Nat.not_lt.2 c13)
             try (have a3 := c13; simp only [ByteArray.size_append', ByteArray.size_mk', List.size_toArray, List.length_cons, List.length_nil, Nat.zero_add, Nat.reduceAdd] at a3; replace a3 := eq_false (Nat.not_lt.2 a3))
             have H' := Aside0.mk H; clear H; have p101 : 0 ≤ (a1 : Int) := of_decide_eq_true (by assumption); have q101 : a1 < (l0.length : Int) := of_decide_eq_true (by assumption); obtain ⟨ad101, a9, a4⟩ := Kd.at_int HR0.out a1 p101 q101
             cases a9
             replace p101 := eq_true p101; replace q101 := eq_true q101; have p102 : 0 ≤ (a1 : Int) := of_decide_eq_true (by assumption); have q102 : a1 < (l0.length : Int) := of_decide_eq_true (by assumption); obtain ⟨ad102, b0, a5⟩ := Kd.at_int HR0.out a1 p102 q102; obtain rfl : ad101 = ad102 := (by injection b0); replace p102 := eq_true p102; replace q102 := eq_true q102; have p103 : 0 ≤ (a1 : Int) := of_decide_eq_true (by assumption); have q103 : a1 < (l0.length : Int) := of_decide_eq_true (by assumption); obtain ⟨ad103, b1, a6⟩ := Kd.at_int HR0.out a1 p103 q103; obtain rfl : ad101 = ad103 := (by injection b1); replace p103 := eq_true p103; replace q103 := eq_true q103; have p104 : 0 ≤ (a1 : Int) := of_decide_eq_true (by assumption); have q104 : a1 < (l0.length : Int) := of_decide_eq_true (by assumption); obtain ⟨ad104, b2, a7⟩ := Kd.at_int HR0.out a1 p104 q104; obtain rfl : ad101 = ad104 := (by injection b2); replace p104 := eq_true p104; replace q104 := eq_true q104
             go_wp2
             repeat (go_quiet (fail); try go_wp2)
             go_roundg k1
             case measure => have := HK1.out; omega
             case rel => exact ⟨((a2 ++ ((⟨#[48, 49, 50, 51, 52, 53, 54, 55, 56, 57, 97, 98, 99, 100, 101, 102]⟩ : ByteArray).extract ((ji4) : Int).toNat ((((ji4) + 1) % 256) : Int).toNat)) ++ ((⟨#[48, 49, 50, 51, 52, 53, 54, 55, 56, 57, 97, 98, 99, 100, 101, 102]⟩ : ByteArray).extract ((ji9) : Int).toNat ((((ji9) + 1) % 256) : Int).toNat)), (wrap64 (a1 + 1)), (by first | rfl | (simp; done) | (simp only [← hji4, ← hji9] <;> (first | rfl | simp)) | (simp [*]; done)), (by first | rfl | (simp; done) | (simp [*]; done)), H', ⟨by have := HK1.out; omega⟩, by repeat (first | exact Drawn0.refl _ | apply Drawn0.step)⟩
            ·
             rw [if_neg c13] at H
             exact absurd H (by simp)
           ·
            rw [if_neg c12] at H
            exact absurd H (by simp)
          ·
           rw [if_neg c11] at H
           exact absurd H (by simp)
         ·
          rw [if_neg c10] at H
          exact absurd H (by simp)
        ·
         rw [if_neg c8] at H
         exact absurd H (by simp)
       ·
        rw [if_neg c7] at H
        exact absurd H (by simp)
      ·
       rw [if_neg c6] at H
       exact absurd H (by simp)
     ·
      rw [if_neg c5] at H
      exact absurd H (by simp)
    ·
     rw [if_neg c3] at H
     exact absurd H (by simp)
   ·
    rw [if_neg c2] at H
    have a8 : decide (a1 < (l0.length : Int)) = false := decide_eq_false c2; clear c2; obtain rfl := Option.some.inj H
    go_wp2
    repeat (go_quiet (fail); try go_wp2)
    go_ret
    exact ⟨by first | rfl | (simp; done) | (simp [*]; done), by repeat (first | exact Drawn0.refl _ | apply Drawn0.step)⟩
end
section
def spec_l1Prime.l0 : Nat → Int → Int → Option (Bool)
  | 0, _, _ => none
  | k + 1, x0, x3 => if (IntKind.u64.wrap (x3 * x3)) ≤ x0 then (if x3 = 0 then (none) else (if (Int.tmod x0 x3) = 0 then (some false) else (spec_l1Prime.l0 k x0 (IntKind.u64.wrap (x3 + 1))))) else (some (decide (x0 > 1)))
def spec_l1Prime.f (k : Nat) (a0 : Int) : Option (Bool) := spec_l1Prime.l0 k a0 2
theorem spec_l1Prime.mono_l : ∀ k, (∀ y0 y1, LeO (spec_l1Prime.l0 k y0 y1) (spec_l1Prime.l0 (k + 1) y0 y1))
  | 0 => fun _ _ r h => by simp [spec_l1Prime.l0] at h
  | k + 1 => by
    have ih0 := spec_l1Prime.mono_l k
    · intro y0 y1
      unfold spec_l1Prime.l0
      repeat' first | (with_reducible first | exact ih0 .. | exact LeO.refl .. | exact LeO.none .. | refine LeO.ite ?_ ?_ | refine LeO.bind ?_ (fun _ => ?_)) | exact ih0 .. | exact LeO.none .. | refine LeO.ite ?_ ?_ | refine LeO.bind ?_ (fun _ => ?_)
theorem spec_l1Prime.mono : ∀ a0 k, LeO (spec_l1Prime.f k a0) (spec_l1Prime.f (k + 1) a0) := by
  intro a0 k
  have ih0 := spec_l1Prime.mono_l k
  unfold spec_l1Prime.f
  repeat' first | (with_reducible first | exact ih0 .. | exact LeO.refl .. | exact LeO.none .. | refine LeO.ite ?_ ?_ | refine LeO.bind ?_ (fun _ => ?_)) | exact ih0 .. | exact LeO.none .. | refine LeO.ite ?_ ?_ | refine LeO.bind ?_ (fun _ => ?_)
set_option maxHeartbeats 8000000 in
set_option maxRecDepth 100000 in
theorem spec_l1Prime.calls (k : Nat) (a0 : Int) (r : Bool) (w : World) (h : spec_l1Prime.f k a0 = some r) :
    Calls Tryd.prog 82 #[.int .u64 a0] w fun e w' => e = .returned (.bool r) ∧ Drawn0 w w' := by
  have H : (spec_l1Prime.l0 k a0 2) = some r := h; clear h; have H' := Aside0.mk H; clear H
  go_enter Tryd.func82, Tryd.ntmps82
  go_wp2
  (try simp only [Act.put, List.setIfInBounds_toArray, List.set_cons_zero, List.set_cons_succ])
  go_loopg [3] k (fun kq v3 w' => ∃ (x3_1 : Int), v3 = .int .u64 x3_1 ∧ Aside0 (spec_l1Prime.l0 kq a0 x3_1 = some r) ∧ Aside0 (kq ≤ k) ∧ Drawn0 w w')
  case atStart => exact ⟨(2), (by first | rfl | (simp; done) | (simp [*]; done)), H', ⟨Nat.le_refl _⟩, by repeat (first | exact Drawn0.refl _ | apply Drawn0.step)⟩
  case round =>
    clear H'; obtain ⟨x3_1, rfl, HA, HK1, ⟨m1, rfl⟩⟩ := hrel
    cases gk with
    | zero => exact absurd HA.out (by simp [spec_l1Prime.l0])
    | succ k1 =>
      have H := HA.out; clear HA
      simp only [spec_l1Prime.l0] at H
      by_cases c2 : (IntKind.u64.wrap (x3_1 * x3_1)) ≤ a0
      · rw [if_pos c2] at H
        have c2b0 : decide ((IntKind.u64.wrap (x3_1 * x3_1)) ≤ a0) = true := decide_eq_true c2; clear c2
        by_cases c3 : x3_1 = 0
        · rw [if_pos c3] at H
          exact absurd H (by simp)
        · rw [if_neg c3] at H
          have c3b0 := beq_eq_false_iff_ne.mpr c3; have c3b1 := bne_iff_ne.mpr c3
          by_cases c4 : (Int.tmod a0 x3_1) = 0
          · rw [if_pos c4] at H
            have c4b0 := beq_iff_eq.mpr c4; have c4b1 := bne_eq_false_iff_eq.mpr c4; clear c4; obtain rfl := Option.some.inj H
            go_wp2
            go_ret
            exact ⟨by first | rfl | (simp; done) | (simp [*]; done), by repeat (first | exact Drawn0.refl _ | apply Drawn0.step)⟩
          · rw [if_neg c4] at H
            have c4b0 := beq_eq_false_iff_ne.mpr c4; have c4b1 := bne_iff_ne.mpr c4; have H' := Aside0.mk H; clear H
            go_wp2
            go_roundg k1
            case measure => have := HK1.out; omega
            case rel => exact ⟨(IntKind.u64.wrap (x3_1 + 1)), (by first | rfl | (simp; done) | (simp [*]; done)), H', ⟨by have := HK1.out; omega⟩, by repeat (first | exact Drawn0.refl _ | apply Drawn0.step)⟩
      · rw [if_neg c2] at H
        have c2b0 : decide ((IntKind.u64.wrap (x3_1 * x3_1)) ≤ a0) = false := decide_eq_false c2; clear c2; obtain rfl := Option.some.inj H
        go_wp2
        go_ret
        exact ⟨by first | rfl | (simp; done) | (simp [*]; done), by repeat (first | exact Drawn0.refl _ | apply Drawn0.step)⟩
end
section
def spec_l1Primes.l0 : Nat → Int → List Int → Int → Option (List Int)
 | 0, _, _, _ => none
 | k + 1, x0, x3, x4 => if (x3.length : Int) < x0 then ((spec_l1Prime.f k x4).bind fun t104 => (if t104 = true then (if x3.length < 17592186044416 then (spec_l1Primes.l0 k x0 (x3 ++ [x4]) (IntKind.u64.wrap (x4 + 1))) else (none)) else (spec_l1Primes.l0 k x0 x3 (IntKind.u64.wrap (x4 + 1))))) else (some x3)
def spec_l1Primes.f (k : Nat) (a0 : Int) : Option (List Int) := spec_l1Primes.l0 k a0 (([] : List Int)) 2
theorem spec_l1Primes.mono_l : ∀ k, (∀ y0 y1 y2, LeO (spec_l1Primes.l0 k y0 y1 y2) (spec_l1Primes.l0 (k + 1) y0 y1 y2))
 | 0 => fun _ _ _ r h => by simp [spec_l1Primes.l0] at h
 | k + 1 => by
  have ih0 := spec_l1Primes.mono_l k
  ·
   intro y0 y1 y2
   unfold spec_l1Primes.l0
   repeat' first | (with_reducible first | exact ih0 .. | exact spec_l1Prime.mono .. | exact LeO.refl .. | exact LeO.none .. | refine LeO.ite ?_ ?_ | refine LeO.bind ?_ (fun _ => ?_)) | exact ih0 .. | exact spec_l1Prime.mono .. | exact LeO.none .. | refine LeO.ite ?_ ?_ | refine LeO.bind ?_ (fun _ => ?_)
theorem spec_l1Primes.mono : ∀ a0 k, LeO (spec_l1Primes.f k a0) (spec_l1Primes.f (k + 1) a0) := by
 intro a0 k
 have ih0 := spec_l1Primes.mono_l k
 unfold spec_l1Primes.f
 repeat' first | (with_reducible first | exact ih0 .. | exact spec_l1Prime.mono .. | exact LeO.refl .. | exact LeO.none .. | refine LeO.ite ?_ ?_ | refine LeO.bind ?_ (fun _ => ?_)) | exact ih0 .. | exact spec_l1Prime.mono .. | exact LeO.none .. | refine LeO.ite ?_ ?_ | refine LeO.bind ?_ (fun _ => ?_)
set_option maxHeartbeats 8000000 in
set_option maxRecDepth 100000 in
theorem spec_l1Primes.calls (k : Nat) (a0 : Int) (r : List Int) (w : World) (h : spec_l1Primes.f k a0 = some r) :
  Calls Tryd.prog 69 #[.int .i64 a0] w fun e w' => ∃ v0_ : Value, e = .returned (v0_) ∧ Kd.R (Kd.int .u64) 103 w' w.heap.size (fun _ => True) v0_ r ∧ Below w.heap.size w w' := by
 have HB := Aside0.mk (Below.refl w.heap.size w); have H : (spec_l1Primes.l0 k a0 (([] : List Int)) 2) = some r := h; clear h; obtain ⟨y101, hy101⟩ : ∃ y_ : List Int, y_ = (([] : List Int)) := ⟨_, rfl⟩
 replace H : (spec_l1Primes.l0 k a0 y101 2) = some r := by first | (rw [hy101]; with_reducible exact H) | (have H2_ := (Option.bind_some _ _).symm.trans H; rw [hy101]; with_reducible exact H2_) | (have H2_ := (Option.bind_some _ _).symm.trans H; with_reducible exact H2_) | with_reducible exact H | (rw [hy101]; exact H) | exact H
 have Ny101 := Aside0.mk hy101; clear hy101; have H' := Aside0.mk H; clear H
 go_enter Tryd.func69, Tryd.ntmps69
 go_wp2_with (first | ((with_reducible refine gd_ 5 rfl ?_); refine Kd.R_lit (Kd.int .u64) _ 103 ?hg (N := 5) ?hd (xs := ([] : List Int)) (inner := []) (ok := fun _ => True) (okp := fun _ => True) ?hr ?hp (fun _ hk => hk) trivial (Below.refl _ _) (Nat.le_refl _) (by simp) ?_; (case hd => rfl); (case hg => rfl); (case hr => first | (go_simp; done) | (go_simp; rfl)); (case hp => exact (Reps.none _ _)); intro b0 w2 ho3 hb hg_ hnew_; clear hg_ hnew_; (first | rw [← Ny101.out] at ho3 | (simp only [Int.reduceToNat] at ho3; rw [← Ny101.out] at ho3)); have a4 := Aside0.mk (Kd.R_lower ho3 (below_size (upH HB.out))); replace HB := Aside0.mk (below_step (upH HB.out) hb); clear hb ho3))
 (try simp only [Act.put, List.setIfInBounds_toArray, List.set_cons_zero, List.set_cons_succ])
 go_loopg [3, 4] k (fun kq v3 v4 w' => ∃ (a2 : List Int) (a1 : Int), v4 = .int .u64 a1 ∧ Aside0 (spec_l1Primes.l0 kq a0 a2 a1 = some r) ∧ Aside0 (kq ≤ k) ∧ Aside0 (Kd.R (Kd.int .u64) 103 w' w.heap.size (fun _ => True) v3 a2) ∧ Aside0 (Below w.heap.size w w'))
 case atStart => exact ⟨(y101), (2), (by first | rfl | (simp; done) | (simp [*]; done)), H', ⟨Nat.le_refl _⟩, ⟨by first | exact a4.out | exact upR a4.out⟩, ⟨upH HB.out⟩⟩
 case round =>
  clear H'; (try clear p2); obtain ⟨a2, a1, rfl, HA, HK1, a3, HB⟩ := hrel
  cases gk with
  | zero => exact absurd HA.out (by simp [spec_l1Primes.l0])
  | succ k1 =>
   have H := HA.out; clear HA
   simp only [spec_l1Primes.l0] at H
   by_cases c4 : (a2.length : Int) < a0
   ·
    rw [if_pos c4] at H
    have a6 : decide ((a2.length : Int) < a0) = true := decide_eq_true c4; clear c4; obtain ⟨a7, A5, H⟩ := bindA H; (try dsimp only at H)
    by_cases c6 : a7 = true
    ·
     subst c6
     rw [if_pos rfl] at H
     by_cases c7 : a2.length < 17592186044416
     ·
      rw [if_pos c7] at H
      have LMc7 := Aside0.mk c7; clear c7; obtain ⟨y105, hy105⟩ : ∃ y_ : List Int, y_ = (a2 ++ [a1]) := ⟨_, rfl⟩
      replace H : (spec_l1Primes.l0 k1 a0 y105 (IntKind.u64.wrap (a1 + 1))) = some r := by first | (rw [hy105]; with_reducible exact H) | (have H2_ := (Option.bind_some _ _).symm.trans H; rw [hy105]; with_reducible exact H2_) | (have H2_ := (Option.bind_some _ _).symm.trans H; with_reducible exact H2_) | with_reducible exact H | (rw [hy105]; exact H) | exact H
      have Ny105 := Aside0.mk hy105; clear hy105; have H' := Aside0.mk H; clear H; obtain ⟨Ao8, co8, eo8⟩ := Kd.R_slice a3.out; subst eo8
      go_wp2_with (first | ((with_reducible refine gc_ 82 rfl ?_); refine gl_ (some 13) rfl Tryd.func82 #[.int .u64 a1] ?_; (with_reducible refine (spec_l1Prime.calls k1 a1 true _ A5.out).mono ?_); rintro e w' ⟨rfl, ⟨nd, rfl⟩⟩; refine ⟨_, rfl, ?_⟩) | ((with_reducible refine gate_builtin (b := .append) (xs := #[.tmp 14, .tmp 16]) rfl ?_); at_builtin; refine Kd.R_append (Kd.int .u64) (w0 := w) w.heap.size rfl (.tmp 14) (.tmp 16) 101 103 (.int .u64 0) 8 rfl Tryd.underlying101 info103 rfl (by decide) (by omega) (.slice Ao8 a2.length co8) a2 a1 [.int .u64 a1] (fun _ => True) (fun _ => False) rfl rfl ?aP (fun _ hk => hk.elim) ?aF ?aO ?aB ?aS ?aL ?_; (case aP => exact rfl); (case aB => exact (upH HB.out)); (case aF => exact (fun _ _ => trivial)); (case aO => exact (upR a3.out)); (case aS => exact (below_size (upH HB.out))); (case aL => have := LMc7.out; omega); intro b1 w9 ho hb hg hat; rw [← Ny105.out] at ho; replace HB := Aside0.mk (hb); have a5 := Aside0.mk (ho); clear a3; clear ho hb hg hat))
      go_roundg k1
      case measure => have := HK1.out; omega
      case rel => exact ⟨(y105), (IntKind.u64.wrap (a1 + 1)), (by first | rfl | (simp; done) | (simp [*]; done)), H', ⟨by have := HK1.out; omega⟩, ⟨by first | exact a5.out | exact upR a5.out⟩, ⟨upH HB.out⟩⟩
     ·
      rw [if_neg c7] at H
      exact absurd H (by simp)
    ·
     replace c6 := Bool.eq_false_iff.mpr c6
     subst c6
     rw [if_neg (show ¬ (false = true) by decide)] at H
     have H' := Aside0.mk H; clear H; obtain ⟨b2, b3, a8⟩ := Kd.R_slice a3.out; subst a8
     go_wp2_with (first | ((with_reducible refine gc_ 82 rfl ?_); refine gl_ (some 13) rfl Tryd.func82 #[.int .u64 a1] ?_; (with_reducible refine (spec_l1Prime.calls k1 a1 false _ A5.out).mono ?_); rintro e w' ⟨rfl, ⟨nd, rfl⟩⟩; refine ⟨_, rfl, ?_⟩))
     go_roundg k1
     case measure => have := HK1.out; omega
     case rel => exact ⟨(a2), (IntKind.u64.wrap (a1 + 1)), (by first | rfl | (simp; done) | (simp [*]; done)), H', ⟨by have := HK1.out; omega⟩, ⟨by first | exact a3.out | exact upR a3.out⟩, ⟨upH HB.out⟩⟩
   ·
    rw [if_neg c4] at H
    have a6 : decide ((a2.length : Int) < a0) = false := decide_eq_false c4; clear c4; obtain rfl := Option.some.inj H; obtain ⟨b4, b5, a9⟩ := Kd.R_slice a3.out; subst a9
    go_wp2
    go_ret
    exact ⟨_, by first | rfl | (simp [*, errW_none, errW_some] <;> rfl), by first | exact a3.out | exact upR a3.out, upH HB.out⟩
end
section
def spec_l1Word.f (a0 : Int) : Option (Int) := some (Int.tmod a0 4294967296)
set_option maxHeartbeats 8000000 in
set_option maxRecDepth 100000 in
theorem spec_l1Word.calls (a0 : Int) (r : Int) (w : World) (h : spec_l1Word.f a0 = some r) :
    Calls Tryd.prog 74 #[.int .u64 a0] w fun e w' => e = .returned (.int .u64 r) ∧ Drawn0 w w' := by
  have H : (some (Int.tmod a0 4294967296)) = some r := h; clear h; obtain rfl := Option.some.inj H
  go_enter Tryd.func74, Tryd.ntmps74
  go_wp2
  go_ret
  exact ⟨by first | rfl | (simp; done) | (simp [*]; done), by repeat (first | exact Drawn0.refl _ | apply Drawn0.step)⟩
end
section
def spec_l1Square.f (a0 : Int) : Option (Int × Int) := some (IntKind.u64.wrap ((IntKind.u64.wrap ((a0 / 4294967296) * (a0 / 4294967296))) + ((IntKind.u64.wrap ((IntKind.u64.wrap ((IntKind.u64.wrap (2 * (a0 / 4294967296))) * (Int.tmod a0 4294967296))) + ((IntKind.u64.wrap ((Int.tmod a0 4294967296) * (Int.tmod a0 4294967296))) / 4294967296))) / 4294967296)), IntKind.u64.wrap ((IntKind.u64.wrap ((Int.tmod (IntKind.u64.wrap ((IntKind.u64.wrap ((IntKind.u64.wrap (2 * (a0 / 4294967296))) * (Int.tmod a0 4294967296))) + ((IntKind.u64.wrap ((Int.tmod a0 4294967296) * (Int.tmod a0 4294967296))) / 4294967296))) 4294967296) * 4294967296)) + (Int.tmod (IntKind.u64.wrap ((Int.tmod a0 4294967296) * (Int.tmod a0 4294967296))) 4294967296)))
set_option maxHeartbeats 8000000 in
set_option maxRecDepth 100000 in
theorem spec_l1Square.calls (a0 : Int) (r1 : Int) (r2 : Int) (w : World) (h : spec_l1Square.f a0 = some (r1, r2)) :
    Calls Tryd.prog 92 #[.int .u64 a0] w fun e w' => e = .returned (.tuple #[.int .u64 r1, .int .u64 r2]) ∧ Drawn0 w w' := by
  have H : (some (IntKind.u64.wrap ((IntKind.u64.wrap ((a0 / 4294967296) * (a0 / 4294967296))) + ((IntKind.u64.wrap ((IntKind.u64.wrap ((IntKind.u64.wrap (2 * (a0 / 4294967296))) * (Int.tmod a0 4294967296))) + ((IntKind.u64.wrap ((Int.tmod a0 4294967296) * (Int.tmod a0 4294967296))) / 4294967296))) / 4294967296)), IntKind.u64.wrap ((IntKind.u64.wrap ((Int.tmod (IntKind.u64.wrap ((IntKind.u64.wrap ((IntKind.u64.wrap (2 * (a0 / 4294967296))) * (Int.tmod a0 4294967296))) + ((IntKind.u64.wrap ((Int.tmod a0 4294967296) * (Int.tmod a0 4294967296))) / 4294967296))) 4294967296) * 4294967296)) + (Int.tmod (IntKind.u64.wrap ((Int.tmod a0 4294967296) * (Int.tmod a0 4294967296))) 4294967296)))) = some (r1, r2) := h; clear h
  simp only [Option.some.injEq, Prod.mk.injEq] at H
  obtain ⟨rfl, rfl⟩ := H
  go_enter Tryd.func92, Tryd.ntmps92
  go_wp2
  go_ret2
  exact ⟨by first | rfl | (simp; done) | (simp [*]; done), by repeat (first | exact Drawn0.refl _ | apply Drawn0.step)⟩
end
section
def spec_l1Cube.f (a0 : Int) : Option (Int) := (spec_l1Square.f a0).bind fun bt101 => (some (IntKind.u64.wrap ((IntKind.u64.wrap (bt101.1 * (a0 / 4294967296))) + ((IntKind.u64.wrap ((IntKind.u64.wrap ((IntKind.u64.wrap ((IntKind.u64.wrap ((bt101.2 / 4294967296) * (a0 / 4294967296))) + (IntKind.u64.wrap (bt101.1 * (Int.tmod a0 4294967296))))) + ((IntKind.u64.wrap ((IntKind.u64.wrap ((bt101.2 / 4294967296) * (Int.tmod a0 4294967296))) + ((IntKind.u64.wrap ((Int.tmod bt101.2 4294967296) * (Int.tmod a0 4294967296))) / 4294967296))) / 4294967296))) + ((IntKind.u64.wrap ((Int.tmod (IntKind.u64.wrap ((IntKind.u64.wrap ((bt101.2 / 4294967296) * (Int.tmod a0 4294967296))) + ((IntKind.u64.wrap ((Int.tmod bt101.2 4294967296) * (Int.tmod a0 4294967296))) / 4294967296))) 4294967296) + (IntKind.u64.wrap ((Int.tmod bt101.2 4294967296) * (a0 / 4294967296))))) / 4294967296))) / 4294967296))))
set_option maxHeartbeats 8000000 in
set_option maxRecDepth 100000 in
theorem spec_l1Cube.calls (a0 : Int) (r : Int) (w : World) (h : spec_l1Cube.f a0 = some r) :
    Calls Tryd.prog 91 #[.int .u64 a0] w fun e w' => e = .returned (.int .u64 r) ∧ Drawn0 w w' := by
  have H : ((spec_l1Square.f a0).bind fun bt101 => (some (IntKind.u64.wrap ((IntKind.u64.wrap (bt101.1 * (a0 / 4294967296))) + ((IntKind.u64.wrap ((IntKind.u64.wrap ((IntKind.u64.wrap ((IntKind.u64.wrap ((bt101.2 / 4294967296) * (a0 / 4294967296))) + (IntKind.u64.wrap (bt101.1 * (Int.tmod a0 4294967296))))) + ((IntKind.u64.wrap ((IntKind.u64.wrap ((bt101.2 / 4294967296) * (Int.tmod a0 4294967296))) + ((IntKind.u64.wrap ((Int.tmod bt101.2 4294967296) * (Int.tmod a0 4294967296))) / 4294967296))) / 4294967296))) + ((IntKind.u64.wrap ((Int.tmod (IntKind.u64.wrap ((IntKind.u64.wrap ((bt101.2 / 4294967296) * (Int.tmod a0 4294967296))) + ((IntKind.u64.wrap ((Int.tmod bt101.2 4294967296) * (Int.tmod a0 4294967296))) / 4294967296))) 4294967296) + (IntKind.u64.wrap ((Int.tmod bt101.2 4294967296) * (a0 / 4294967296))))) / 4294967296))) / 4294967296))))) = some r := h; clear h; obtain ⟨⟨t101, t102⟩, A2, H⟩ := bindA H; (try dsimp only at H); obtain rfl := Option.some.inj H
  go_enter Tryd.func91, Tryd.ntmps91
  go_wp2_with (first | ((with_reducible refine gc_ 92 rfl ?_); refine gl_ (some 14) rfl Tryd.func92 #[.int .u64 a0] ?_; (with_reducible refine (spec_l1Square.calls a0 t101 t102 _ A2.out).mono ?_); rintro e w' ⟨rfl, ⟨nd, rfl⟩⟩; refine ⟨_, rfl, ?_⟩))
  go_ret
  exact ⟨by first | rfl | (simp; done) | (simp [*]; done), by repeat (first | exact Drawn0.refl _ | apply Drawn0.step)⟩
end
section
def spec_l1Over.f (a0 : Int) (a1 : Int) (a2 : Int) : Option (Bool) := if a1 = 3 then ((spec_l1Cube.f a0).bind fun t101 => (some (decide (t101 ≥ a2)))) else ((spec_l1Square.f a0).bind fun bt102 => (some (decide (bt102.1 ≥ a2))))
set_option maxHeartbeats 8000000 in
set_option maxRecDepth 100000 in
theorem spec_l1Over.calls (a0 : Int) (a1 : Int) (a2 : Int) (r : Bool) (w : World) (h : spec_l1Over.f a0 a1 a2 = some r) :
    Calls Tryd.prog 83 #[.int .u64 a0, .int .i64 a1, .int .u64 a2] w fun e w' => e = .returned (.bool r) ∧ Drawn0 w w' := by
  have H : (if a1 = 3 then ((spec_l1Cube.f a0).bind fun t101 => (some (decide (t101 ≥ a2)))) else ((spec_l1Square.f a0).bind fun bt102 => (some (decide (bt102.1 ≥ a2))))) = some r := h; clear h
  by_cases c4 : a1 = 3
  · rw [if_pos c4] at H
    have c4b0 := beq_iff_eq.mpr c4; have c4b1 := bne_eq_false_iff_eq.mpr c4; clear c4; obtain ⟨t101, A5, H⟩ := bindA H; (try dsimp only at H); obtain rfl := Option.some.inj H
    go_enter Tryd.func83, Tryd.ntmps83
    go_wp2_with (first | ((with_reducible refine gc_ 91 rfl ?_); refine gl_ (some 12) rfl Tryd.func91 #[.int .u64 a0] ?_; (with_reducible refine (spec_l1Cube.calls a0 t101 _ A5.out).mono ?_); rintro e w' ⟨rfl, ⟨nd, rfl⟩⟩; refine ⟨_, rfl, ?_⟩))
    go_ret
    exact ⟨by first | rfl | (simp; done) | (simp [*]; done), by repeat (first | exact Drawn0.refl _ | apply Drawn0.step)⟩
  · rw [if_neg c4] at H
    have c4b0 := beq_eq_false_iff_ne.mpr c4; have c4b1 := bne_iff_ne.mpr c4; obtain ⟨⟨t102, t103⟩, A6, H⟩ := bindA H; (try dsimp only at H); obtain rfl := Option.some.inj H
    go_enter Tryd.func83, Tryd.ntmps83
    go_wp2_with (first | ((with_reducible refine gc_ 92 rfl ?_); refine gl_ (some 17) rfl Tryd.func92 #[.int .u64 a0] ?_; (with_reducible refine (spec_l1Square.calls a0 t102 t103 _ A6.out).mono ?_); rintro e w' ⟨rfl, ⟨nd, rfl⟩⟩; refine ⟨_, rfl, ?_⟩))
    go_ret
    exact ⟨by first | rfl | (simp; done) | (simp [*]; done), by repeat (first | exact Drawn0.refl _ | apply Drawn0.step)⟩
end
section
def spec_l1Root.l0 : Nat → Int → Int → Int → Int → Option (Int)
 | 0, _, _, _, _ => none
 | k + 1, x0, x1, x5, x6 => if x6 ≥ 0 then (if 0 ≤ x6 then (if ((IntKind.u64.wrap (x5 + (shl .u64 1 x6))) / 4294967296) ≤ 20 then ((spec_l1Over.f (IntKind.u64.wrap (x5 + (shl .u64 1 x6))) x1 x0).bind fun t101 => (if t101 = true then (spec_l1Root.l0 k x0 x1 x5 (wrap64 (x6 - 1))) else (spec_l1Root.l0 k x0 x1 (IntKind.u64.wrap (x5 + (shl .u64 1 x6))) (wrap64 (x6 - 1))))) else (spec_l1Root.l0 k x0 x1 x5 (wrap64 (x6 - 1)))) else (none)) else ((spec_l1Word.f x5).bind fun t102 => (some t102))
def spec_l1Root.f (k : Nat) (a0 : Int) (a1 : Int) : Option (Int) := spec_l1Root.l0 k a0 a1 0 37
theorem spec_l1Root.mono_l : ∀ k, (∀ y0 y1 y2 y3, LeO (spec_l1Root.l0 k y0 y1 y2 y3) (spec_l1Root.l0 (k + 1) y0 y1 y2 y3))
 | 0 => fun _ _ _ _ r h => by simp [spec_l1Root.l0] at h
 | k + 1 => by
  have ih0 := spec_l1Root.mono_l k
  ·
   intro y0 y1 y2 y3
   unfold spec_l1Root.l0
   repeat' first | (with_reducible first | exact ih0 .. | exact LeO.refl .. | exact LeO.none .. | refine LeO.ite ?_ ?_ | refine LeO.bind ?_ (fun _ => ?_)) | exact ih0 .. | exact LeO.none .. | refine LeO.ite ?_ ?_ | refine LeO.bind ?_ (fun _ => ?_)
theorem spec_l1Root.mono : ∀ a0 a1 k, LeO (spec_l1Root.f k a0 a1) (spec_l1Root.f (k + 1) a0 a1) := by
 intro a0 a1 k
 have ih0 := spec_l1Root.mono_l k
 unfold spec_l1Root.f
 repeat' first | (with_reducible first | exact ih0 .. | exact LeO.refl .. | exact LeO.none .. | refine LeO.ite ?_ ?_ | refine LeO.bind ?_ (fun _ => ?_)) | exact ih0 .. | exact LeO.none .. | refine LeO.ite ?_ ?_ | refine LeO.bind ?_ (fun _ => ?_)
set_option maxHeartbeats 8000000 in
set_option maxRecDepth 100000 in
theorem spec_l1Root.calls (k : Nat) (a0 : Int) (a1 : Int) (r : Int) (w : World) (h : spec_l1Root.f k a0 a1 = some r) :
  Calls Tryd.prog 70 #[.int .u64 a0, .int .i64 a1] w fun e w' => e = .returned (.int .u64 r) ∧ Drawn0 w w' := by
 have H : (spec_l1Root.l0 k a0 a1 0 37) = some r := h; clear h; have H' := Aside0.mk H; clear H
 go_enter Tryd.func70, Tryd.ntmps70
 go_wp2
 (try simp only [Act.put, List.setIfInBounds_toArray, List.set_cons_zero, List.set_cons_succ])
 go_loopg [5, 6] k (fun kq v5 v6 w' => ∃ (a3 : Int) (a2 : Int), v5 = .int .u64 a3 ∧ v6 = .int .i64 a2 ∧ Aside0 (spec_l1Root.l0 kq a0 a1 a3 a2 = some r) ∧ Aside0 (kq ≤ k) ∧ Drawn0 w w')
 case atStart => exact ⟨(0), (37), (by first | rfl | (simp; done) | (simp [*]; done)), (by first | rfl | (simp; done) | (simp [*]; done)), H', ⟨Nat.le_refl _⟩, by repeat (first | exact Drawn0.refl _ | apply Drawn0.step)⟩
 case round =>
  clear H'; (try clear p2); obtain ⟨a3, a2, rfl, rfl, HA, HK1, ⟨m1, rfl⟩⟩ := hrel
  cases gk with
  | zero => exact absurd HA.out (by simp [spec_l1Root.l0])
  | succ k1 =>
   have H := HA.out; clear HA
   simp only [spec_l1Root.l0] at H
   by_cases c3 : a2 ≥ 0
   ·
    rw [if_pos c3] at H
    have a5 : decide (0 ≤ a2) = true := decide_eq_true c3; clear c3
    by_cases c4 : 0 ≤ a2
    ·
     rw [if_pos c4] at H
     have a8 := eq_true c4; replace c4 := decide_eq_true c4; obtain ⟨ji5, hji5⟩ : ∃ j_ : Int, (shl .u64 1 a2) = j_ := ⟨_, rfl⟩
     replace H : (if ((IntKind.u64.wrap (a3 + (ji5))) / 4294967296) ≤ 20 then ((spec_l1Over.f (IntKind.u64.wrap (a3 + (ji5))) a1 a0).bind fun a4 => (if a4 = true then (spec_l1Root.l0 k1 a0 a1 a3 (wrap64 (a2 - 1))) else (spec_l1Root.l0 k1 a0 a1 (IntKind.u64.wrap (a3 + (ji5))) (wrap64 (a2 - 1))))) else (spec_l1Root.l0 k1 a0 a1 a3 (wrap64 (a2 - 1)))) = some r := by first | (rw [hji5] at H; exact H) | (simp only [hji5] at H ⊢; exact H)
     have hji5_ : (IntKind.u64.wrap (1 * 2 ^ min a2.toNat 64)) = ji5 := hji5; have hji5z : a2 ≤ 64 → (IntKind.u64.wrap (1 * 2 ^ a2.toNat)) = ji5 := shl_small hji5; have hji5u : (IntKind.u64.wrap (2 ^ min a2.toNat 64)) = ji5 := (by have h_ := hji5_; rw [Int.one_mul] at h_; exact h_); have hji5v : a2 ≤ 64 → (IntKind.u64.wrap (2 ^ a2.toNat)) = ji5 := fun hle_ => by have h_ := hji5z hle_; rw [Int.one_mul] at h_; exact h_
     by_cases c6 : ((IntKind.u64.wrap (a3 + (ji5))) / 4294967296) ≤ 20
     ·
      rw [if_pos c6] at H
      have a6 : decide (((IntKind.u64.wrap (a3 + (ji5))) / 4294967296) ≤ 20) = true := decide_eq_true c6; clear c6; obtain ⟨a4, A7, H⟩ := bindA H; (try dsimp only at H)
      by_cases c8 : a4 = true
      ·
       subst c8
       rw [if_pos rfl] at H
       have H' := Aside0.mk H; clear H
       go_wp2_with (first | (go_at_call 83; (with_reducible refine (spec_l1Over.calls (IntKind.u64.wrap (a3 + (ji5))) a1 a0 true _ A7.out).mono ?_); rintro e w' ⟨rfl, ⟨nd, rfl⟩⟩))
       go_roundg k1
       case measure => have := HK1.out; omega
       case rel => exact ⟨(a3), (wrap64 (a2 - 1)), (by first | rfl | (simp; done) | (simp [*]; done)), (by first | rfl | (simp; done) | (simp [*]; done)), H', ⟨by have := HK1.out; omega⟩, by repeat (first | exact Drawn0.refl _ | apply Drawn0.step)⟩
      ·
       replace c8 := Bool.eq_false_iff.mpr c8
       subst c8
       rw [if_neg (show ¬ (false = true) by decide)] at H
       have H' := Aside0.mk H; clear H
       go_wp2_with (first | (go_at_call 83; (with_reducible refine (spec_l1Over.calls (IntKind.u64.wrap (a3 + (ji5))) a1 a0 false _ A7.out).mono ?_); rintro e w' ⟨rfl, ⟨nd, rfl⟩⟩))
       go_roundg k1
       case measure => have := HK1.out; omega
       case rel => exact ⟨(IntKind.u64.wrap (a3 + (ji5))), (wrap64 (a2 - 1)), (by first | rfl | (simp; done) | (simp only [← hji5] <;> (first | rfl | simp)) | (simp [*]; done)), (by first | rfl | (simp; done) | (simp [*]; done)), H', ⟨by have := HK1.out; omega⟩, by repeat (first | exact Drawn0.refl _ | apply Drawn0.step)⟩
     ·
      rw [if_neg c6] at H
      have a6 : decide (((IntKind.u64.wrap (a3 + (ji5))) / 4294967296) ≤ 20) = false := decide_eq_false c6; clear c6; have H' := Aside0.mk H; clear H
      go_wp2
      go_roundg k1
      case measure => have := HK1.out; omega
      case rel => exact ⟨(a3), (wrap64 (a2 - 1)), (by first | rfl | (simp; done) | (simp [*]; done)), (by first | rfl | (simp; done) | (simp [*]; done)), H', ⟨by have := HK1.out; omega⟩, by repeat (first | exact Drawn0.refl _ | apply Drawn0.step)⟩
    ·
     rw [if_neg c4] at H
     exact absurd H (by simp)
   ·
    rw [if_neg c3] at H
    have a5 : decide (0 ≤ a2) = false := decide_eq_false c3; clear c3; obtain ⟨a7, A9, H⟩ := bindA H; (try dsimp only at H); obtain rfl := Option.some.inj H
    go_wp2_with (first | ((with_reducible refine gc_ 74 rfl ?_); refine gl_ (some 28) rfl Tryd.func74 #[.int .u64 a3] ?_; (with_reducible refine (spec_l1Word.calls a3 a7 _ A9.out).mono ?_); rintro e w' ⟨rfl, ⟨nd, rfl⟩⟩; refine ⟨_, rfl, ?_⟩))
    go_ret
    exact ⟨by first | rfl | (simp; done) | (simp [*]; done), by repeat (first | exact Drawn0.refl _ | apply Drawn0.step)⟩
end
section
open Go.Proofs.YtmbkhindhndccaaDoorW.PrintWords.Aside0 renaming mk → yaa

mutual
def spec_l1Whole.l0 : Nat → List Int → List Int → Option (List Int)
 | 0, _, _ => none
 | k + 1, x0, x3 => if ((x3.length : Int) % 64) = 56 then (spec_l1Whole.l1 k x3 (IntKind.u64.wrap (wrap64 (8 * (x0.length : Int)))) 7) else (if x3.length < 140737488355328 then (spec_l1Whole.l0 k x0 (x3 ++ [0])) else (none))
def spec_l1Whole.l1 : Nat → List Int → Int → Int → Option (List Int)
 | 0, _, _, _ => none
 | k + 1, x3, x4, x5 => if x5 ≥ 0 then (if 0 ≤ (wrap64 (8 * x5)) then (if x3.length < 140737488355328 then (spec_l1Whole.l1 k (x3 ++ [(shr .u64 x4 (wrap64 (8 * x5))) % 256]) x4 (wrap64 (x5 - 1))) else (none)) else (none)) else (some x3)
end
def spec_l1Whole.f (k : Nat) (l0 : List Int) : Option (List Int) := (some (([] : List Int) : List Int)).bind fun y101 => (if y101.length + l0.length < 140737488355328 then ((some (y101 ++ l0 : List Int)).bind fun y104 => (if y104.length < 140737488355328 then (spec_l1Whole.l0 k l0 (y104 ++ [128])) else (none))) else (none))
theorem spec_l1Whole.mono_l : ∀ k, (∀ y0 y1, LeO (spec_l1Whole.l0 k y0 y1) (spec_l1Whole.l0 (k + 1) y0 y1)) ∧ (∀ y0 y1 y2, LeO (spec_l1Whole.l1 k y0 y1 y2) (spec_l1Whole.l1 (k + 1) y0 y1 y2))
 | 0 => ⟨fun _ _ r h => by simp [spec_l1Whole.l0] at h, fun _ _ _ r h => by simp [spec_l1Whole.l1] at h⟩
 | k + 1 => by
  obtain ⟨ih0, ih1⟩ := spec_l1Whole.mono_l k
  refine ⟨?_, ?_⟩
  ·
   intro y0 y1
   unfold spec_l1Whole.l0
   repeat' first | (with_reducible first | exact ih0 .. | exact ih1 .. | exact LeO.refl .. | exact LeO.none .. | refine LeO.ite ?_ ?_ | refine LeO.bind ?_ (fun _ => ?_)) | exact ih0 .. | exact ih1 .. | exact LeO.none .. | refine LeO.ite ?_ ?_ | refine LeO.bind ?_ (fun _ => ?_)
  ·
   intro y0 y1 y2
   unfold spec_l1Whole.l1
   repeat' first | (with_reducible first | exact ih0 .. | exact ih1 .. | exact LeO.refl .. | exact LeO.none .. | refine LeO.ite ?_ ?_ | refine LeO.bind ?_ (fun _ => ?_)) | exact ih0 .. | exact ih1 .. | exact LeO.none .. | refine LeO.ite ?_ ?_ | refine LeO.bind ?_ (fun _ => ?_)
theorem spec_l1Whole.mono : ∀ a0 k, LeO (spec_l1Whole.f k a0) (spec_l1Whole.f (k + 1) a0) := by
 intro a0 k
 obtain ⟨ih0, ih1⟩ := spec_l1Whole.mono_l k
 unfold spec_l1Whole.f
 repeat' first | (with_reducible first | exact ih0 .. | exact ih1 .. | exact LeO.refl .. | exact LeO.none .. | refine LeO.ite ?_ ?_ | refine LeO.bind ?_ (fun _ => ?_)) | exact ih0 .. | exact ih1 .. | exact LeO.none .. | refine LeO.ite ?_ ?_ | refine LeO.bind ?_ (fun _ => ?_)
set_option maxHeartbeats 8000000 in
set_option maxRecDepth 100000 in
theorem spec_l1Whole.calls (k : Nat) (A0 : Option Addr) (c0 : Nat) (l0 : List Int) (r : List Int) (w : World) (hr0 : Kd.C (Kd.int .u8) w A0 l0.length l0) (hc0 : l0.length ≤ c0) (h : spec_l1Whole.f k l0 = some r) :
  Calls Tryd.prog 71 #[.slice A0 l0.length c0] w fun e w' => ∃ v0_ : Value, e = .returned (v0_) ∧ Kd.R (Kd.int .u8) 5 w' w.heap.size (fun _ => True) v0_ r ∧ Below w.heap.size w w' := by
 have HR0 := yaa hr0; have HC0 := yaa hc0; clear hr0 hc0; have HB := yaa (Below.refl w.heap.size w); have H : ((some (([] : List Int) : List Int)).bind fun y101 => (if y101.length + l0.length < 140737488355328 then ((some (y101 ++ l0 : List Int)).bind fun y104 => (if y104.length < 140737488355328 then (spec_l1Whole.l0 k l0 (y104 ++ [128])) else (none))) else (none))) = some r := h; clear h; obtain ⟨y101, hy101, H⟩ := bindY H; (try dsimp only at H); have Ny101 := yaa hy101; clear hy101
 by_cases c2 : y101.length + l0.length < 140737488355328
 ·
  rw [if_pos c2] at H
  have LMc2 := yaa c2; clear c2; obtain ⟨y104, hy104⟩ : ∃ y_ : List Int, y_ = (y101 ++ l0) := ⟨_, rfl⟩
  replace H : (if y104.length < 140737488355328 then (spec_l1Whole.l0 k l0 (y104 ++ [128])) else (none)) = some r := by first | (rw [hy104]; with_reducible exact H) | (have H2_ := (Option.bind_some _ _).symm.trans H; rw [hy104]; with_reducible exact H2_) | (have H2_ := (Option.bind_some _ _).symm.trans H; with_reducible exact H2_) | with_reducible exact H | (rw [hy104]; exact H) | exact H
  have Ny104 := yaa hy104; clear hy104
  by_cases c3 : y104.length < 140737488355328
  ·
   rw [if_pos c3] at H
   have LMc3 := yaa c3; clear c3; obtain ⟨y107, hy107⟩ : ∃ y_ : List Int, y_ = (y104 ++ [128]) := ⟨_, rfl⟩
   replace H : (spec_l1Whole.l0 k l0 y107) = some r := by first | (rw [hy107]; with_reducible exact H) | (have H2_ := (Option.bind_some _ _).symm.trans H; rw [hy107]; with_reducible exact H2_) | (have H2_ := (Option.bind_some _ _).symm.trans H; with_reducible exact H2_) | with_reducible exact H | (rw [hy107]; exact H) | exact H
   have Ny107 := yaa hy107; clear hy107; have H' := yaa H; clear H
   go_enter Tryd.func71, Tryd.ntmps71
   go_wp2_with (first | ((with_reducible refine gd_ 6 rfl ?_); refine Kd.R_lit (Kd.int .u8) _ 5 ?hg (N := 6) ?hd (xs := ([] : List Int)) (inner := []) (ok := fun _ => True) (okp := fun _ => True) ?hr ?hp (fun _ hk => hk) trivial (Below.refl _ _) (Nat.le_refl _) (by simp) ?_; (case hd => rfl); (case hg => rfl); (case hr => first | (go_simp; done) | (go_simp; rfl)); (case hp => exact (Reps.none _ _)); intro b3 w4 ho5 hb hg_ hnew_; clear hg_ hnew_; (first | rw [← Ny101.out] at ho5 | (simp only [Int.reduceToNat] at ho5; rw [← Ny101.out] at ho5)); have a5 := yaa (Kd.R_lower ho5 (below_size (upH HB.out))); replace HB := yaa (below_step (upH HB.out) hb); clear hb ho5) | ((with_reducible refine gate_builtin (b := .append) (xs := #[.tmp 6, .tmp 7]) rfl ?_); at_builtin; refine Kd.R_append_rows (Kd.int .u8) (w0 := w) w.heap.size rfl (.tmp 6) (.tmp 7) 22 5 (.int .u8 0) 1 rfl Tryd.underlying22 info5 rfl (by decide) (by omega) b3 y101 l0 _ _ _ (fun _ => True) (fun _ => False) rfl rfl ?aO ?aR (fun _ _ h => h) (fun _ h => h.elim) ?aF ?aB ?aS ?aL ?_; (case aR => repeat (first | exact (Kd.C_below HR0.out HB.out) | (with_reducible refine Kd.C_alloc ?_ _) | (with_reducible refine Kd.C_drewN ?_ _) | (with_reducible refine Kd.C_drew ?_))); (case aB => exact (upH HB.out)); (case aF => exact (fun _ _ => trivial)); (case aO => exact (upR a5.out)); (case aS => exact (below_size (upH HB.out))); (case aL => have := LMc2.out; omega); intro b4 w6 ho hb hg hat; rw [← Ny104.out] at ho; replace HB := yaa (hb); have a6 := yaa (ho); clear a5; clear ho hb hg hat) | ((with_reducible refine gate_builtin (b := .append) (xs := #[.tmp 8, .tmp 9]) rfl ?_); at_builtin; refine Kd.R_append (Kd.int .u8) (w0 := w) w.heap.size rfl (.tmp 8) (.tmp 9) 22 5 (.int .u8 0) 1 rfl Tryd.underlying22 info5 rfl (by decide) (by omega) b4 y104 128 [.int .u8 128] (fun _ => True) (fun _ => False) rfl rfl ?aP (fun _ hk => hk.elim) ?aF ?aO ?aB ?aS ?aL ?_; (case aP => exact rfl); (case aB => exact (upH HB.out)); (case aF => exact (fun _ _ => trivial)); (case aO => exact (upR a6.out)); (case aS => exact (below_size (upH HB.out))); (case aL => have := LMc3.out; omega); intro b9 w7 ho hb hg hat; rw [← Ny107.out] at ho; replace HB := yaa (hb); have a7 := yaa (ho); clear a6; clear ho hb hg hat))
   (try simp only [Act.put, List.setIfInBounds_toArray, List.set_cons_zero, List.set_cons_succ])
   go_loopg [3] k (fun kq v3 w' => ∃ (a4 : List Int), Aside0 (spec_l1Whole.l0 kq l0 a4 = some r) ∧ Aside0 (kq ≤ k) ∧ Aside0 (Kd.R (Kd.int .u8) 5 w' w.heap.size (fun _ => True) v3 a4) ∧ Aside0 (Below w.heap.size w w'))
   case atStart => exact ⟨(y107), H', ⟨Nat.le_refl _⟩, ⟨by first | exact a7.out | exact upR a7.out⟩, ⟨upH HB.out⟩⟩
   case round =>
    clear H'; (try clear c2); (try clear p2); (try clear c3); (try clear c7); obtain ⟨a4, HA, HK1, a2, HB⟩ := hrel
    cases gk with
    | zero => exact absurd HA.out (by simp [spec_l1Whole.l0])
    | succ k1 =>
     have H := HA.out; clear HA
     simp only [spec_l1Whole.l0] at H
     by_cases c8 : ((a4.length : Int) % 64) = 56
     ·
      rw [if_pos c8] at H
      have b0 := beq_iff_eq.mpr c8; have b1 := bne_eq_false_iff_eq.mpr c8; clear c8; have H' := yaa H; clear H; obtain ⟨Ao9, co9, eo9⟩ := Kd.R_slice a2.out; subst eo9
      go_wp2
      (try simp only [Act.put, List.setIfInBounds_toArray, List.set_cons_zero, List.set_cons_succ])
      go_loopg [3, 5] k1 (fun kq v3 v5 w' => ∃ (a3 : List Int) (a1 : Int), v5 = .int .i64 a1 ∧ Aside0 (spec_l1Whole.l1 kq a3 (IntKind.u64.wrap (wrap64 (8 * (l0.length : Int)))) a1 = some r) ∧ Aside0 (kq ≤ k1) ∧ Aside0 (Kd.R (Kd.int .u8) 5 w' w.heap.size (fun _ => True) v3 a3) ∧ Aside0 (Below w.heap.size w w'))
      case atStart => exact ⟨(a4), (7), (by first | rfl | (simp; done) | (simp [*]; done)), H', ⟨Nat.le_refl _⟩, ⟨by first | exact a2.out | exact upR a2.out⟩, ⟨upH HB.out⟩⟩
      case round =>
       clear H'; (try clear c2); (try clear p2); (try clear c3); (try clear p6); (try clear c7); (try clear c8); (try clear b0); (try clear b1); (try clear p2); obtain ⟨a3, a1, rfl, HA, HK2, a2, HB⟩ := hrel
       cases gk with
       | zero => exact absurd HA.out (by simp [spec_l1Whole.l1])
       | succ k2 =>
        have H := HA.out; clear HA
        simp only [spec_l1Whole.l1] at H
        by_cases c10 : a1 ≥ 0
        ·
         rw [if_pos c10] at H
         have b2 : decide (0 ≤ a1) = true := decide_eq_true c10; clear c10; obtain ⟨ji11, hji11⟩ : ∃ j_ : Int, (wrap64 (8 * a1)) = j_ := ⟨_, rfl⟩
         replace H : (if 0 ≤ (ji11) then (if a3.length < 140737488355328 then (spec_l1Whole.l1 k2 (a3 ++ [(shr .u64 (IntKind.u64.wrap (wrap64 (8 * (l0.length : Int)))) (ji11)) % 256]) (IntKind.u64.wrap (wrap64 (8 * (l0.length : Int)))) (wrap64 (a1 - 1))) else (none)) else (none)) = some r := by first | (rw [hji11] at H; exact H) | (simp only [hji11] at H ⊢; exact H)
         have hji11w : (IntKind.i64.wrap (8 * a1)) = ji11 := (i64_w _).trans hji11
         by_cases c12 : 0 ≤ (ji11)
         ·
          rw [if_pos c12] at H
          have b8 := eq_true c12; replace c12 := decide_eq_true c12; obtain ⟨ji13, hji13⟩ : ∃ j_ : Int, (shr .u64 (IntKind.u64.wrap (wrap64 (8 * (l0.length : Int)))) (ji11)) = j_ := ⟨_, rfl⟩
          replace H : (if a3.length < 140737488355328 then (spec_l1Whole.l1 k2 (a3 ++ [(ji13) % 256]) (IntKind.u64.wrap (wrap64 (8 * (l0.length : Int)))) (wrap64 (a1 - 1))) else (none)) = some r := by first | (rw [hji13] at H; exact H) | (simp only [hji13] at H ⊢; exact H)
          have hji13_ : ((IntKind.u64.wrap (wrap64 (8 * (l0.length : Int)))) / 2 ^ min (ji11).toNat 64) = ji13 := hji13; have hji13z : (ji11) ≤ 64 → ((IntKind.u64.wrap (wrap64 (8 * (l0.length : Int)))) / 2 ^ (ji11).toNat) = ji13 := shr_small hji13
          by_cases c14 : a3.length < 140737488355328
          ·
           rw [if_pos c14] at H
           have LMc14 := yaa c14; clear c14; obtain ⟨y113, hy113⟩ : ∃ y_ : List Int, y_ = (a3 ++ [(ji13) % 256]) := ⟨_, rfl⟩
           replace H : (spec_l1Whole.l1 k2 y113 (IntKind.u64.wrap (wrap64 (8 * (l0.length : Int)))) (wrap64 (a1 - 1))) = some r := by first | (rw [hy113]; with_reducible exact H) | (have H2_ := (Option.bind_some _ _).symm.trans H; rw [hy113]; with_reducible exact H2_) | (have H2_ := (Option.bind_some _ _).symm.trans H; with_reducible exact H2_) | with_reducible exact H | (rw [hy113]; exact H) | exact H
           have Ny113 := yaa hy113; clear hy113; have H' := yaa H; clear H
           go_wp2_with (first | ((with_reducible refine gate_builtin (b := .append) (xs := #[.tmp 26, .tmp 32]) rfl ?_); at_builtin; refine Kd.R_append (Kd.int .u8) (w0 := w) w.heap.size rfl (.tmp 26) (.tmp 32) 22 5 (.int .u8 0) 1 rfl Tryd.underlying22 info5 rfl (by decide) (by omega) u3 a3 ((ji13) % 256) [.int .u8 ((ji13) % 256)] (fun _ => True) (fun _ => False) rfl rfl ?aP (fun _ hk => hk.elim) ?aF ?aO ?aB ?aS ?aL ?_; (case aP => exact rfl); (case aB => exact (upH HB.out)); (case aF => exact (fun _ _ => trivial)); (case aO => exact (upR a2.out)); (case aS => exact (below_size (upH HB.out))); (case aL => have := LMc14.out; omega); intro c1 w15 ho hb hg hat; rw [← Ny113.out] at ho; replace HB := yaa (hb); have a8 := yaa (ho); clear a2; clear ho hb hg hat))
           go_roundg k2
           case measure => have := HK1.out; have := HK2.out; omega
           case rel => exact ⟨(y113), (wrap64 (a1 - 1)), (by first | rfl | (simp; done) | (simp [*]; done)), H', ⟨by have := HK1.out; have := HK2.out; omega⟩, ⟨by first | exact a8.out | exact upR a8.out⟩, ⟨upH HB.out⟩⟩
          ·
           rw [if_neg c14] at H
           exact absurd H (by simp)
         ·
          rw [if_neg c12] at H
          exact absurd H (by simp)
        ·
         rw [if_neg c10] at H
         have b2 : decide (0 ≤ a1) = false := decide_eq_false c10; clear c10; obtain rfl := Option.some.inj H
         go_wp2
         go_ret
         exact ⟨_, by first | rfl | (simp [*, errW_none, errW_some] <;> rfl), by first | exact a2.out | exact upR a2.out, upH HB.out⟩
     ·
      rw [if_neg c8] at H
      have b0 := beq_eq_false_iff_ne.mpr c8; have b1 := bne_iff_ne.mpr c8
      by_cases c16 : a4.length < 140737488355328
      ·
       rw [if_pos c16] at H
       have LMc16 := yaa c16; clear c16; obtain ⟨y110, hy110⟩ : ∃ y_ : List Int, y_ = (a4 ++ [0]) := ⟨_, rfl⟩
       replace H : (spec_l1Whole.l0 k1 l0 y110) = some r := by first | (rw [hy110]; with_reducible exact H) | (have H2_ := (Option.bind_some _ _).symm.trans H; rw [hy110]; with_reducible exact H2_) | (have H2_ := (Option.bind_some _ _).symm.trans H; with_reducible exact H2_) | with_reducible exact H | (rw [hy110]; exact H) | exact H
       have Ny110 := yaa hy110; clear hy110; have H' := yaa H; clear H; obtain ⟨b5, b6, b7⟩ := Kd.R_slice a2.out; subst b7
       go_wp2_with (first | ((with_reducible refine gate_builtin (b := .append) (xs := #[.tmp 15, .tmp 16]) rfl ?_); at_builtin; refine Kd.R_append (Kd.int .u8) (w0 := w) w.heap.size rfl (.tmp 15) (.tmp 16) 22 5 (.int .u8 0) 1 rfl Tryd.underlying22 info5 rfl (by decide) (by omega) (.slice b5 a4.length b6) a4 0 [.int .u8 0] (fun _ => True) (fun _ => False) rfl rfl ?aP (fun _ hk => hk.elim) ?aF ?aO ?aB ?aS ?aL ?_; (case aP => exact rfl); (case aB => exact (upH HB.out)); (case aF => exact (fun _ _ => trivial)); (case aO => exact (upR a2.out)); (case aS => exact (below_size (upH HB.out))); (case aL => have := LMc16.out; omega); intro c4 w18 ho hb hg hat; rw [← Ny110.out] at ho; replace HB := yaa (hb); have a9 := yaa (ho); clear a2; clear ho hb hg hat))
       go_roundg k1
       case measure => have := HK1.out; omega
       case rel => exact ⟨(y110), H', ⟨by have := HK1.out; omega⟩, ⟨by first | exact a9.out | exact upR a9.out⟩, ⟨upH HB.out⟩⟩
      ·
       rw [if_neg c16] at H
       exact absurd H (by simp)
  ·
   rw [if_neg c3] at H
   exact absurd H (by simp)
 ·
  rw [if_neg c2] at H
  exact absurd H (by simp)
end
section
def spec_l1Turn.f (a0 : Int) (a1 : Int) : Option (Int) := if 0 ≤ a1 then (if 0 ≤ (IntKind.u64.wrap (32 - a1)) then ((spec_l1Word.f (Go.bits .or .u64 (shr .u64 a0 a1) (shl .u64 a0 (IntKind.u64.wrap (32 - a1))))).bind fun t101 => (some t101)) else (none)) else (none)
set_option maxHeartbeats 8000000 in
set_option maxRecDepth 100000 in
theorem spec_l1Turn.calls (a0 : Int) (a1 : Int) (r : Int) (w : World) (h : spec_l1Turn.f a0 a1 = some r) :
    Calls Tryd.prog 84 #[.int .u64 a0, .int .u64 a1] w fun e w' => e = .returned (.int .u64 r) ∧ Drawn0 w w' := by
  have H : (if 0 ≤ a1 then (if 0 ≤ (IntKind.u64.wrap (32 - a1)) then ((spec_l1Word.f (Go.bits .or .u64 (shr .u64 a0 a1) (shl .u64 a0 (IntKind.u64.wrap (32 - a1))))).bind fun t101 => (some t101)) else (none)) else (none)) = some r := h; clear h
  by_cases c3 : 0 ≤ a1
  · rw [if_pos c3] at H
    have c3b0 := eq_true c3; replace c3 := decide_eq_true c3; obtain ⟨ji4, hji4⟩ : ∃ j_ : Int, (shr .u64 a0 a1) = j_ := ⟨_, rfl⟩
    replace H : (if 0 ≤ (IntKind.u64.wrap (32 - a1)) then ((spec_l1Word.f (Go.bits .or .u64 (ji4) (shl .u64 a0 (IntKind.u64.wrap (32 - a1))))).bind fun t101 => (some t101)) else (none)) = some r := by first | (rw [hji4] at H; exact H) | (simp only [hji4] at H ⊢; exact H)
    have hji4_ : (a0 / 2 ^ min a1.toNat 64) = ji4 := hji4; have hji4z : a1 ≤ 64 → (a0 / 2 ^ a1.toNat) = ji4 := shr_small hji4; obtain ⟨ji5, hji5⟩ : ∃ j_ : Int, (IntKind.u64.wrap (32 - a1)) = j_ := ⟨_, rfl⟩
    replace H : (if 0 ≤ (ji5) then ((spec_l1Word.f (Go.bits .or .u64 (ji4) (shl .u64 a0 (ji5)))).bind fun t101 => (some t101)) else (none)) = some r := by first | (rw [hji5] at H; exact H) | (simp only [hji5] at H ⊢; exact H)
    by_cases c6 : 0 ≤ (ji5)
    · rw [if_pos c6] at H
      have c6b0 := eq_true c6; replace c6 := decide_eq_true c6; obtain ⟨ji7, hji7⟩ : ∃ j_ : Int, (shl .u64 a0 (ji5)) = j_ := ⟨_, rfl⟩
      replace H : ((spec_l1Word.f (Go.bits .or .u64 (ji4) (ji7))).bind fun t101 => (some t101)) = some r := by first | (rw [hji7] at H; exact H) | (simp only [hji7] at H ⊢; exact H)
      have hji7_ : (IntKind.u64.wrap (a0 * 2 ^ min (ji5).toNat 64)) = ji7 := hji7; have hji7z : (ji5) ≤ 64 → (IntKind.u64.wrap (a0 * 2 ^ (ji5).toNat)) = ji7 := shl_small hji7; obtain ⟨t101, A8, H⟩ := bindA H; (try dsimp only at H); obtain rfl := Option.some.inj H
      go_enter Tryd.func84, Tryd.ntmps84
      go_wp2_with (first | ((with_reducible refine gc_ 74 rfl ?_); refine goesL_ (some 13) rfl rfl Tryd.func74 (by kernel_rfl) rfl #[.int .u64 (Go.bits .or .u64 (ji4) (ji7))] rfl (by (try simp only [List.map_toArray, List.map_cons, List.map_nil]); first | done | (simp only [hji4, hji7]; rfl) | rfl | (simp only [List.length_drop, List.length_take]; rfl)) ?_; (with_reducible refine (spec_l1Word.calls (Go.bits .or .u64 (ji4) (ji7)) t101 _ A8.out).mono ?_); rintro e w' ⟨rfl, ⟨nd, rfl⟩⟩; refine ⟨_, rfl, ?_⟩))
      go_ret
      exact ⟨by first | rfl | (simp; done) | (simp only [← hji4, ← hji5, ← hji7] <;> (first | rfl | simp)) | (simp [*]; done), by repeat (first | exact Drawn0.refl _ | apply Drawn0.step)⟩
    · rw [if_neg c6] at H
      exact absurd H (by simp)
  · rw [if_neg c3] at H
    exact absurd H (by simp)
end
section
open Go.Proofs.YtmbkhindhndccaaDoorW.PrintWords.Aside0 renaming mk → yaa

abbrev q72_0 : Array Bool := Array.replicate 37 false
abbrev q72_1 : Array Bool := bl_ 37 1
abbrev q72_2 : Array Bool := bl_ 37 3
abbrev q72_3 : Array Bool := bl_ 37 7
abbrev q72_4 : Array Bool := bl_ 37 15
abbrev q72_5 : Array Bool := bl_ 37 31
abbrev q72_6 : Array Bool := bl_ 37 287
abbrev q72_7 : Array Bool := bl_ 37 799
abbrev q72_8 : Array Bool := bl_ 37 1823
abbrev q72_9 : Array Bool := bl_ 37 3871
abbrev q72_10 : Array Bool := bl_ 37 7967
abbrev q72_11 : Array Bool := bl_ 37 139039
abbrev q72_12 : Array Bool := bl_ 37 401183
abbrev q72_13 : Array Bool := bl_ 37 925471
abbrev q72_14 : Array Bool := bl_ 37 1974047
abbrev q72_15 : Array Bool := bl_ 37 4071199
abbrev q72_16 : Array Bool := bl_ 37 71180063
abbrev q72_17 : Array Bool := bl_ 37 205397791
abbrev q72_18 : Array Bool := bl_ 37 473833247
abbrev q72_19 : Array Bool := bl_ 37 1010704159
abbrev q72_20 : Array Bool := bl_ 37 2084445983
abbrev q72_21 : Array Bool := bl_ 37 2084446015
abbrev q72_22 : Array Bool := bl_ 37 2084446079
abbrev q72_23 : Array Bool := bl_ 37 2084446207
abbrev q72_24 : Array Bool := bl_ 37 2084454399
abbrev q72_25 : Array Bool := bl_ 37 2084470783
abbrev q72_26 : Array Bool := bl_ 37 2084503551
abbrev q72_27 : Array Bool := bl_ 37 2084569087
abbrev q72_28 : Array Bool := bl_ 37 2088763391
abbrev q72_29 : Array Bool := bl_ 37 2097151999
abbrev q72_30 : Array Bool := bl_ 37 2113929215
abbrev q72_31 : Array Bool := bl_ 37 2147483647
abbrev q72_32 : Array Bool := bl_ 37 4294967295
abbrev q72_33 : Array Bool := bl_ 37 8589934591
abbrev q72_34 : Array Bool := bl_ 37 17179869183
abbrev q72_35 : Array Bool := bl_ 37 34359738367
abbrev q72_36 : Array Bool := bl_ 37 68719476735
abbrev q72_37 : Array Bool := bl_ 37 137438953471
abbrev q72_38 : Array Bool := Array.replicate 21 false
abbrev q72_39 : Array Bool := bl_ 21 1
abbrev q72_40 : Array Bool := bl_ 21 3
abbrev q72_41 : Array Bool := bl_ 21 7
abbrev q72_42 : Array Bool := bl_ 21 15
abbrev q72_43 : Array Bool := bl_ 21 79
abbrev q72_44 : Array Bool := bl_ 21 207
abbrev q72_45 : Array Bool := bl_ 21 463
abbrev q72_46 : Array Bool := bl_ 21 975
abbrev q72_47 : Array Bool := bl_ 21 9167
abbrev q72_48 : Array Bool := bl_ 21 25551
abbrev q72_49 : Array Bool := bl_ 21 58319
abbrev q72_50 : Array Bool := bl_ 21 123855
abbrev q72_51 : Array Bool := bl_ 21 123871
abbrev q72_52 : Array Bool := bl_ 21 124895
abbrev q72_53 : Array Bool := bl_ 21 255967
abbrev q72_54 : Array Bool := bl_ 21 518111
abbrev q72_55 : Array Bool := bl_ 21 518143
abbrev q72_56 : Array Bool := bl_ 21 520191
abbrev q72_57 : Array Bool := bl_ 21 524287
abbrev q72_58 : Array Bool := bl_ 21 1048575
abbrev q72_59 : Array Bool := bl_ 21 2097151
abbrev q72_60 : Array Bool := Array.replicate 20 false
abbrev q72_61 : Array Bool := bl_ 20 1
abbrev q72_62 : Array Bool := bl_ 20 3
abbrev q72_63 : Array Bool := bl_ 20 7
abbrev q72_64 : Array Bool := bl_ 20 15
abbrev q72_65 : Array Bool := bl_ 20 31
abbrev q72_66 : Array Bool := bl_ 20 95
abbrev q72_67 : Array Bool := bl_ 20 351
abbrev q72_68 : Array Bool := bl_ 20 863
abbrev q72_69 : Array Bool := bl_ 20 1887
abbrev q72_70 : Array Bool := bl_ 20 3935
abbrev q72_71 : Array Bool := bl_ 20 20319
abbrev q72_72 : Array Bool := bl_ 20 20351
abbrev q72_73 : Array Bool := bl_ 20 20479
abbrev q72_74 : Array Bool := bl_ 20 24575
abbrev q72_75 : Array Bool := bl_ 20 32767
abbrev q72_76 : Array Bool := bl_ 20 65535
abbrev q72_77 : Array Bool := bl_ 20 131071
abbrev q72_78 : Array Bool := bl_ 20 262143
abbrev q72_79 : Array Bool := bl_ 20 524287
abbrev q72_80 : Array Bool := bl_ 20 1048575
mutual
def spec_l1Words.l0 : Nat → List Int → List Int → Int → Option (List Int)
 | 0, _, _, _ => none
 | k + 1, x0, x3, x4 => if x4 < 16 then (if 0 ≤ (wrap64 (4 * x4)) then (if (wrap64 (4 * x4)) < (x0.length : Int) then (if 0 ≤ (wrap64 ((wrap64 (4 * x4)) + 1)) then (if (wrap64 ((wrap64 (4 * x4)) + 1)) < (x0.length : Int) then (if 0 ≤ (wrap64 ((wrap64 (4 * x4)) + 2)) then (if (wrap64 ((wrap64 (4 * x4)) + 2)) < (x0.length : Int) then (if 0 ≤ (wrap64 ((wrap64 (4 * x4)) + 3)) then (if (wrap64 ((wrap64 (4 * x4)) + 3)) < (x0.length : Int) then (if x3.length < 17592186044416 then (spec_l1Words.l0 k x0 (x3 ++ [Go.bits .or .u64 (Go.bits .or .u64 (Go.bits .or .u64 (IntKind.u64.wrap ((IntKind.u64.wrap (rd x0 (wrap64 (4 * x4)))) * 16777216)) (IntKind.u64.wrap ((IntKind.u64.wrap (rd x0 (wrap64 ((wrap64 (4 * x4)) + 1)))) * 65536))) (IntKind.u64.wrap ((IntKind.u64.wrap (rd x0 (wrap64 ((wrap64 (4 * x4)) + 2)))) * 256))) (IntKind.u64.wrap (rd x0 (wrap64 ((wrap64 (4 * x4)) + 3))))]) (wrap64 (x4 + 1))) else (none)) else (none)) else (none)) else (none)) else (none)) else (none)) else (none)) else (none)) else (none)) else (spec_l1Words.l1 k x3 16)
def spec_l1Words.l1 : Nat → List Int → Int → Option (List Int)
 | 0, _, _ => none
 | k + 1, x3, x5 => if x5 < 64 then (if 0 ≤ (wrap64 (x5 - 15)) then (if (wrap64 (x5 - 15)) < (x3.length : Int) then ((spec_l1Turn.f (rd x3 (wrap64 (x5 - 15))) 7).bind fun t112 => ((spec_l1Turn.f (rd x3 (wrap64 (x5 - 15))) 18).bind fun t114 => (if 0 ≤ (wrap64 (x5 - 2)) then (if (wrap64 (x5 - 2)) < (x3.length : Int) then ((spec_l1Turn.f (rd x3 (wrap64 (x5 - 2))) 17).bind fun t117 => ((spec_l1Turn.f (rd x3 (wrap64 (x5 - 2))) 19).bind fun t119 => (if 0 ≤ (wrap64 (x5 - 16)) then (if (wrap64 (x5 - 16)) < (x3.length : Int) then (if 0 ≤ (wrap64 (x5 - 7)) then (if (wrap64 (x5 - 7)) < (x3.length : Int) then ((spec_l1Word.f (IntKind.u64.wrap ((IntKind.u64.wrap ((IntKind.u64.wrap ((rd x3 (wrap64 (x5 - 16))) + (Go.bits .xor .u64 (Go.bits .xor .u64 t112 t114) ((rd x3 (wrap64 (x5 - 15))) / 8)))) + (rd x3 (wrap64 (x5 - 7))))) + (Go.bits .xor .u64 (Go.bits .xor .u64 t117 t119) ((rd x3 (wrap64 (x5 - 2))) / 1024))))).bind fun t123 => (if x3.length < 17592186044416 then (spec_l1Words.l1 k (x3 ++ [t123]) (wrap64 (x5 + 1))) else (none))) else (none)) else (none)) else (none)) else (none)))) else (none)) else (none)))) else (none)) else (none)) else (some x3)
end
def spec_l1Words.f (k : Nat) (l0 : List Int) : Option (List Int) := spec_l1Words.l0 k l0 (([] : List Int)) 0
theorem spec_l1Words.mono_l : ∀ k, (∀ y0 y1 y2, LeO (spec_l1Words.l0 k y0 y1 y2) (spec_l1Words.l0 (k + 1) y0 y1 y2)) ∧ (∀ y0 y1, LeO (spec_l1Words.l1 k y0 y1) (spec_l1Words.l1 (k + 1) y0 y1))
 | 0 => ⟨fun _ _ _ r h => by simp [spec_l1Words.l0] at h, fun _ _ r h => by simp [spec_l1Words.l1] at h⟩
 | k + 1 => by
  obtain ⟨ih0, ih1⟩ := spec_l1Words.mono_l k
  refine ⟨?_, ?_⟩
  ·
   intro y0 y1 y2
   unfold spec_l1Words.l0
   repeat' first | (with_reducible first | exact ih0 .. | exact ih1 .. | exact LeO.refl .. | exact LeO.none .. | refine LeO.ite ?_ ?_ | refine LeO.bind ?_ (fun _ => ?_)) | exact ih0 .. | exact ih1 .. | exact LeO.none .. | refine LeO.ite ?_ ?_ | refine LeO.bind ?_ (fun _ => ?_)
  ·
   intro y0 y1
   unfold spec_l1Words.l1
   repeat' first | (with_reducible first | exact ih0 .. | exact ih1 .. | exact LeO.refl .. | exact LeO.none .. | refine LeO.ite ?_ ?_ | refine LeO.bind ?_ (fun _ => ?_)) | exact ih0 .. | exact ih1 .. | exact LeO.none .. | refine LeO.ite ?_ ?_ | refine LeO.bind ?_ (fun _ => ?_)
theorem spec_l1Words.mono : ∀ a0 k, LeO (spec_l1Words.f k a0) (spec_l1Words.f (k + 1) a0) := by
 intro a0 k
 obtain ⟨ih0, ih1⟩ := spec_l1Words.mono_l k
 unfold spec_l1Words.f
 repeat' first | (with_reducible first | exact ih0 .. | exact ih1 .. | exact LeO.refl .. | exact LeO.none .. | refine LeO.ite ?_ ?_ | refine LeO.bind ?_ (fun _ => ?_)) | exact ih0 .. | exact ih1 .. | exact LeO.none .. | refine LeO.ite ?_ ?_ | refine LeO.bind ?_ (fun _ => ?_)
def spec_l1Words.T5 : Bool × List (List Nat × List Nat) := (true, [([], []), ([], []), ([], []), ([2], [2]), ([1, 3], [1, 3]), ([4], [4]), ([5], [5]), ([6], [6]), ([], []), ([], []), ([9], [9]), ([10], [10]), ([8, 11], [8, 11]), ([12], [12]), ([13], [13]), ([14], [14]), ([7, 15], [7, 15]), ([], []), ([], []), ([18], [18]), ([19], [19]), ([17, 20], [17, 20]), ([21], [21]), ([22], [22]), ([23], [23]), ([16, 24], [16, 24]), ([], []), ([], []), ([27], [27]), ([28], [28]), ([26, 29], [26, 29]), ([30], [30]), ([31], [31]), ([25, 32], [25, 32]), ([33], [33]), ([0, 34], [0, 34]), ([35, 35, 0, 1, 2, 3, 4, 5, 6, 7, 8, 9, 10, 11, 12, 13, 14, 15, 16, 17, 18, 19, 20, 21, 22, 23, 24, 25, 26, 27, 28, 29, 30, 31, 32, 33, 34, 35], [0, 35])])
def spec_l1Words.B5 : List Nat := [0, 0, 0, 4, 14, 30, 62, 126, 0, 0, 512, 1536, 3840, 7936, 16128, 32512, 65534, 0, 0, 262144, 786432, 1966080, 4063232, 8257536, 16646144, 33554430, 0, 0, 134217728, 402653184, 1006632960, 2080374784, 4227858432, 8589934590, 17179869182, 34359738367, 68719476735]
theorem spec_l1Words.tab5 : rtab .any (opsOf Tryd.f72 5) = spec_l1Words.T5 := by kernel_rfl
theorem spec_l1Words.bits5 : waitsOk spec_l1Words.T5.2 spec_l1Words.B5 = true := by kernel_rfl
def spec_l1Words.T9 : Bool × List (List Nat × List Nat) := (true, [([], []), ([], []), ([1], [1]), ([0, 2], [0, 2]), ([3], [3]), ([4], [4]), ([], []), ([], []), ([7], [7]), ([6, 8], [6, 8]), ([9], [9]), ([10, 5], [10]), ([5, 11], [5, 11]), ([], []), ([], []), ([14], [14]), ([13, 15], [13, 15]), ([16], [16]), ([17], [17]), ([12, 18], [12, 18]), ([19, 11, 0, 1, 2, 3, 4, 5, 6, 7, 8, 9, 10, 11, 12, 13, 14, 15, 16, 17, 18, 19], [19])])
def spec_l1Words.B9 : List Nat := [0, 0, 2, 7, 15, 31, 0, 0, 128, 448, 960, 2047, 4095, 0, 0, 16384, 57344, 122880, 253952, 524287, 1048575]
theorem spec_l1Words.tab9 : rtab .any (opsOf Tryd.f72 9) = spec_l1Words.T9 := by kernel_rfl
theorem spec_l1Words.bits9 : waitsOk spec_l1Words.T9.2 spec_l1Words.B9 = true := by kernel_rfl
def spec_l1Words.T10 : Bool × List (List Nat × List Nat) := (true, [([], []), ([], []), ([1], [1]), ([0, 2], [0, 2]), ([3], [3]), ([4], [4]), ([], []), ([], []), ([7], [7]), ([6, 8], [6, 8]), ([9], [9]), ([10, 5], [10]), ([5, 11], [5, 11]), ([], []), ([], []), ([14], [14]), ([13, 15], [13, 15]), ([16], [16]), ([17], [17]), ([12, 18], [12, 18]), ([19, 11, 0, 1, 2, 3, 4, 5, 6, 7, 8, 9, 10, 11, 12, 13, 14, 15, 16, 17, 18, 19], [19])])
def spec_l1Words.B10 : List Nat := [0, 0, 2, 7, 15, 31, 0, 0, 128, 448, 960, 2047, 4095, 0, 0, 16384, 57344, 122880, 253952, 524287, 1048575]
theorem spec_l1Words.tab10 : rtab .any (opsOf Tryd.f72 10) = spec_l1Words.T10 := by kernel_rfl
theorem spec_l1Words.bits10 : waitsOk spec_l1Words.T10.2 spec_l1Words.B10 = true := by kernel_rfl
def spec_l1Words.T11 : Bool × List (List Nat × List Nat) := (true, [([], []), ([], []), ([], []), ([2], [2]), ([1, 3], [1, 3]), ([4], [4]), ([], []), ([5, 6], [5, 6]), ([], []), ([], []), ([9], [9]), ([8, 10], [8, 10]), ([11], [11]), ([7, 12], [7, 12]), ([], []), ([13, 14], [13, 14]), ([15], [15]), ([16], [16]), ([0, 17, 16], [0, 17]), ([18, 18, 0, 1, 2, 3, 4, 5, 6, 7, 8, 9, 10, 11, 12, 13, 14, 15, 16, 17, 18], [0, 1, 8, 18])])
def spec_l1Words.B11 : List Nat := [0, 0, 0, 4, 14, 30, 0, 126, 0, 0, 512, 1792, 3840, 8190, 0, 32766, 65534, 131070, 262143, 524287]
theorem spec_l1Words.tab11 : rtab .any (opsOf Tryd.f72 11) = spec_l1Words.T11 := by kernel_rfl
theorem spec_l1Words.bits11 : waitsOk spec_l1Words.T11.2 spec_l1Words.B11 = true := by kernel_rfl
set_option maxHeartbeats 8000000 in
set_option maxRecDepth 100000 in
theorem spec_l1Words.calls (k : Nat) (A0 : Option Addr) (c0 : Nat) (l0 : List Int) (r : List Int) (w : World) (hr0 : Kd.C (Kd.int .u8) w A0 l0.length l0) (hc0 : l0.length ≤ c0) (h : spec_l1Words.f k l0 = some r) :
  Calls Tryd.prog 72 #[.slice A0 l0.length c0] w fun e w' => ∃ v0_ : Value, e = .returned (v0_) ∧ Kd.R (Kd.int .u64) 103 w' w.heap.size (fun _ => True) v0_ r ∧ Below w.heap.size w w' := by
 have HR0 := yaa hr0; have HC0 := yaa hc0; clear hr0 hc0; have HB := yaa (Below.refl w.heap.size w); have H : (spec_l1Words.l0 k l0 (([] : List Int)) 0) = some r := h; clear h; obtain ⟨y101, hy101⟩ : ∃ y_ : List Int, y_ = (([] : List Int)) := ⟨_, rfl⟩
 replace H : (spec_l1Words.l0 k l0 y101 0) = some r := by first | (rw [hy101]; with_reducible exact H) | (have H2_ := (Option.bind_some _ _).symm.trans H; rw [hy101]; with_reducible exact H2_) | (have H2_ := (Option.bind_some _ _).symm.trans H; with_reducible exact H2_) | with_reducible exact H | (rw [hy101]; exact H) | exact H
 have Ny101 := yaa hy101; clear hy101; have H' := yaa H; clear H
 go_enter Tryd.func72, Tryd.ntmps72
 go_wp2_with (first | ((with_reducible refine gd_ 8 rfl ?_); refine Kd.R_lit (Kd.int .u64) _ 103 ?hg (N := 8) ?hd (xs := ([] : List Int)) (inner := []) (ok := fun _ => True) (okp := fun _ => True) ?hr ?hp (fun _ hk => hk) trivial (Below.refl _ _) (Nat.le_refl _) (by simp) ?_; (case hd => rfl); (case hg => rfl); (case hr => first | (go_simp; done) | (go_simp; rfl)); (case hp => exact (Reps.none _ _)); intro f7 w2 ho3 hb hg_ hnew_; clear hg_ hnew_; (first | rw [← Ny101.out] at ho3 | (simp only [Int.reduceToNat] at ho3; rw [← Ny101.out] at ho3)); have d3 := yaa (Kd.R_lower ho3 (below_size (upH HB.out))); replace HB := yaa (below_step (upH HB.out) hb); clear hb ho3))
 (try simp only [Act.put, List.setIfInBounds_toArray, List.set_cons_zero, List.set_cons_succ])
 go_loopg [3, 4] k (fun kq v3 v4 w' => ∃ (a4 : List Int) (a5 : Int), v4 = .int .i64 a5 ∧ Aside0 (spec_l1Words.l0 kq l0 a4 a5 = some r) ∧ Aside0 (kq ≤ k) ∧ Aside0 (Kd.R (Kd.int .u64) 103 w' w.heap.size (fun _ => True) v3 a4) ∧ Aside0 (Below w.heap.size w w'))
 case atStart => exact ⟨(y101), (0), (by first | rfl | (simp; done) | (simp [*]; done)), H', ⟨Nat.le_refl _⟩, ⟨by first | exact d3.out | exact upR d3.out⟩, ⟨upH HB.out⟩⟩
 case round =>
  clear H'; (try clear p2); obtain ⟨a4, a5, rfl, HA, HK1, a3, HB⟩ := hrel
  cases gk with
  | zero => exact absurd HA.out (by simp [spec_l1Words.l0])
  | succ k1 =>
   have H := HA.out; clear HA
   simp only [spec_l1Words.l0] at H
   by_cases c4 : a5 < 16
   ·
    rw [if_pos c4] at H
    have d7 : decide (a5 < 16) = true := decide_eq_true c4; clear c4; obtain ⟨ji5, hji5⟩ : ∃ j_ : Int, (wrap64 (4 * a5)) = j_ := ⟨_, rfl⟩
    replace H : (if 0 ≤ (ji5) then (if (ji5) < (l0.length : Int) then (if 0 ≤ (wrap64 ((ji5) + 1)) then (if (wrap64 ((ji5) + 1)) < (l0.length : Int) then (if 0 ≤ (wrap64 ((ji5) + 2)) then (if (wrap64 ((ji5) + 2)) < (l0.length : Int) then (if 0 ≤ (wrap64 ((ji5) + 3)) then (if (wrap64 ((ji5) + 3)) < (l0.length : Int) then (if a4.length < 17592186044416 then (spec_l1Words.l0 k1 l0 (a4 ++ [Go.bits .or .u64 (Go.bits .or .u64 (Go.bits .or .u64 (IntKind.u64.wrap ((IntKind.u64.wrap (rd l0 (ji5))) * 16777216)) (IntKind.u64.wrap ((IntKind.u64.wrap (rd l0 (wrap64 ((ji5) + 1)))) * 65536))) (IntKind.u64.wrap ((IntKind.u64.wrap (rd l0 (wrap64 ((ji5) + 2)))) * 256))) (IntKind.u64.wrap (rd l0 (wrap64 ((ji5) + 3))))]) (wrap64 (a5 + 1))) else (none)) else (none)) else (none)) else (none)) else (none)) else (none)) else (none)) else (none)) else (none)) = some r := by first | (rw [hji5] at H; exact H) | (simp only [hji5] at H ⊢; exact H)
    have hji5w : (IntKind.i64.wrap (4 * a5)) = ji5 := (i64_w _).trans hji5
    by_cases c6 : 0 ≤ (ji5)
    ·
     rw [if_pos c6] at H
     replace c6 := decide_eq_true c6
     by_cases c7 : (ji5) < (l0.length : Int)
     ·
      rw [if_pos c7] at H
      replace c7 := decide_eq_true c7; obtain ⟨ji8, hji8⟩ : ∃ j_ : Int, (wrap64 ((ji5) + 1)) = j_ := ⟨_, rfl⟩
      replace H : (if 0 ≤ (ji8) then (if (ji8) < (l0.length : Int) then (if 0 ≤ (wrap64 ((ji5) + 2)) then (if (wrap64 ((ji5) + 2)) < (l0.length : Int) then (if 0 ≤ (wrap64 ((ji5) + 3)) then (if (wrap64 ((ji5) + 3)) < (l0.length : Int) then (if a4.length < 17592186044416 then (spec_l1Words.l0 k1 l0 (a4 ++ [Go.bits .or .u64 (Go.bits .or .u64 (Go.bits .or .u64 (IntKind.u64.wrap ((IntKind.u64.wrap (rd l0 (ji5))) * 16777216)) (IntKind.u64.wrap ((IntKind.u64.wrap (rd l0 (ji8))) * 65536))) (IntKind.u64.wrap ((IntKind.u64.wrap (rd l0 (wrap64 ((ji5) + 2)))) * 256))) (IntKind.u64.wrap (rd l0 (wrap64 ((ji5) + 3))))]) (wrap64 (a5 + 1))) else (none)) else (none)) else (none)) else (none)) else (none)) else (none)) else (none)) = some r := by first | (rw [hji8] at H; exact H) | (simp only [hji8] at H ⊢; exact H)
      have hji8w : (IntKind.i64.wrap ((ji5) + 1)) = ji8 := (i64_w _).trans hji8
      by_cases c9 : 0 ≤ (ji8)
      ·
       rw [if_pos c9] at H
       replace c9 := decide_eq_true c9
       by_cases c10 : (ji8) < (l0.length : Int)
       ·
        rw [if_pos c10] at H
        replace c10 := decide_eq_true c10; obtain ⟨ji11, hji11⟩ : ∃ j_ : Int, (wrap64 ((ji5) + 2)) = j_ := ⟨_, rfl⟩
        replace H : (if 0 ≤ (ji11) then (if (ji11) < (l0.length : Int) then (if 0 ≤ (wrap64 ((ji5) + 3)) then (if (wrap64 ((ji5) + 3)) < (l0.length : Int) then (if a4.length < 17592186044416 then (spec_l1Words.l0 k1 l0 (a4 ++ [Go.bits .or .u64 (Go.bits .or .u64 (Go.bits .or .u64 (IntKind.u64.wrap ((IntKind.u64.wrap (rd l0 (ji5))) * 16777216)) (IntKind.u64.wrap ((IntKind.u64.wrap (rd l0 (ji8))) * 65536))) (IntKind.u64.wrap ((IntKind.u64.wrap (rd l0 (ji11))) * 256))) (IntKind.u64.wrap (rd l0 (wrap64 ((ji5) + 3))))]) (wrap64 (a5 + 1))) else (none)) else (none)) else (none)) else (none)) else (none)) = some r := by first | (rw [hji11] at H; exact H) | (simp only [hji11] at H ⊢; exact H)
        have hji11w : (IntKind.i64.wrap ((ji5) + 2)) = ji11 := (i64_w _).trans hji11
        by_cases c12 : 0 ≤ (ji11)
        ·
         rw [if_pos c12] at H
         replace c12 := decide_eq_true c12
         by_cases c13 : (ji11) < (l0.length : Int)
         ·
          rw [if_pos c13] at H
          replace c13 := decide_eq_true c13; obtain ⟨ji14, hji14⟩ : ∃ j_ : Int, (wrap64 ((ji5) + 3)) = j_ := ⟨_, rfl⟩
          replace H : (if 0 ≤ (ji14) then (if (ji14) < (l0.length : Int) then (if a4.length < 17592186044416 then (spec_l1Words.l0 k1 l0 (a4 ++ [Go.bits .or .u64 (Go.bits .or .u64 (Go.bits .or .u64 (IntKind.u64.wrap ((IntKind.u64.wrap (rd l0 (ji5))) * 16777216)) (IntKind.u64.wrap ((IntKind.u64.wrap (rd l0 (ji8))) * 65536))) (IntKind.u64.wrap ((IntKind.u64.wrap (rd l0 (ji11))) * 256))) (IntKind.u64.wrap (rd l0 (ji14)))]) (wrap64 (a5 + 1))) else (none)) else (none)) else (none)) = some r := by first | (rw [hji14] at H; exact H) | (simp only [hji14] at H ⊢; exact H)
          have hji14w : (IntKind.i64.wrap ((ji5) + 3)) = ji14 := (i64_w _).trans hji14
          by_cases c15 : 0 ≤ (ji14)
          ·
           rw [if_pos c15] at H
           replace c15 := decide_eq_true c15
           by_cases c16 : (ji14) < (l0.length : Int)
           ·
            rw [if_pos c16] at H
            replace c16 := decide_eq_true c16
            by_cases c17 : a4.length < 17592186044416
            ·
             rw [if_pos c17] at H
             have LMc17 := yaa c17; clear c17; obtain ⟨y108, hy108⟩ : ∃ y_ : List Int, y_ = (a4 ++ [Go.bits .or .u64 (Go.bits .or .u64 (Go.bits .or .u64 (IntKind.u64.wrap ((IntKind.u64.wrap (rd l0 (ji5))) * 16777216)) (IntKind.u64.wrap ((IntKind.u64.wrap (rd l0 (ji8))) * 65536))) (IntKind.u64.wrap ((IntKind.u64.wrap (rd l0 (ji11))) * 256))) (IntKind.u64.wrap (rd l0 (ji14)))]) := ⟨_, rfl⟩
             replace H : (spec_l1Words.l0 k1 l0 y108 (wrap64 (a5 + 1))) = some r := by first | (rw [hy108]; with_reducible exact H) | (have H2_ := (Option.bind_some _ _).symm.trans H; rw [hy108]; with_reducible exact H2_) | (have H2_ := (Option.bind_some _ _).symm.trans H; with_reducible exact H2_) | with_reducible exact H | (rw [hy108]; exact H) | exact H
             have Ny108 := yaa hy108; clear hy108; have H' := yaa H; clear H
             try go_wp2
             replace a3 := yaa (Kd.R_drew a3.out); replace HB := yaa (below_drew1 HB.out); have p104 : 0 ≤ ((ji5) : Int) := of_decide_eq_true (by assumption); have q104 : (ji5) < (l0.length : Int) := of_decide_eq_true (by assumption); obtain ⟨ad104, e0, a6⟩ := Kd.at_int HR0.out (ji5) p104 q104; have b1 := a6
             cases e0
             replace a6 := (upc_ HB.out a6 :); replace p104 := eq_true p104; replace q104 := eq_true q104; have p105 : 0 ≤ ((ji8) : Int) := of_decide_eq_true (by assumption); have q105 : (ji8) < (l0.length : Int) := of_decide_eq_true (by assumption); obtain ⟨ad105, e1, a7⟩ := Kd.at_int HR0.out (ji8) p105 q105; have b2 := a7; obtain rfl : ad104 = ad105 := (by injection e1); replace a7 := (upc_ HB.out a7 :); replace p105 := eq_true p105; replace q105 := eq_true q105; have p106 : 0 ≤ ((ji11) : Int) := of_decide_eq_true (by assumption); have q106 : (ji11) < (l0.length : Int) := of_decide_eq_true (by assumption); obtain ⟨ad106, e2, a8⟩ := Kd.at_int HR0.out (ji11) p106 q106; have b3 := a8; obtain rfl : ad104 = ad106 := (by injection e2); replace a8 := (upc_ HB.out a8 :); replace p106 := eq_true p106; replace q106 := eq_true q106; have p107 : 0 ≤ ((ji14) : Int) := of_decide_eq_true (by assumption); have q107 : (ji14) < (l0.length : Int) := of_decide_eq_true (by assumption); obtain ⟨ad107, e3, a9⟩ := Kd.at_int HR0.out (ji14) p107 q107; have b4 := a9; obtain rfl : ad104 = ad107 := (by injection e3); replace a9 := (upc_ HB.out a9 :); replace p107 := eq_true p107; replace q107 := eq_true q107
             refine start_ (n := 37) (S := fun w' => w'.cell? (ad104.add ((ji5)).toNat) = some (.int .u8 (rd l0 (ji5))) ∧ w'.cell? (ad104.add ((ji8)).toNat) = some (.int .u8 (rd l0 (ji8))) ∧ w'.cell? (ad104.add ((ji11)).toNat) = some (.int .u8 (rd l0 (ji11))) ∧ w'.cell? (ad104.add ((ji14)).toNat) = some (.int .u8 (rd l0 (ji14)))) (ds := []) q72_0 (by kernel_rfl) rfl rfl ⟨(upc_ HB.out b1 :), (upc_ HB.out b2 :), (upc_ HB.out b3 :), (upc_ HB.out b4 :)⟩ (fun hHeld => ?_); refine with_tabW spec_l1Words.tab5 spec_l1Words.bits5 (fun HT_ HW_ => ?_)
             generalize wr.drew = w18 at a3 HB a6 a7 a8 a9 hHeld ⊢
             refine pz_ 0 13 q72_1 HT_ (by kernel_rfl) ?_
             refine pz_ 1 14 q72_2 HT_ (by kernel_rfl) ?_
             refine pz_ 2 15 q72_3 HT_ (by kernel_rfl) ?_
             refine pz_ 3 16 q72_4 HT_ (by kernel_rfl) ?_
             refine pz_ 4 17 q72_5 HT_ (by kernel_rfl) ?_
             refine pz_ 8 21 q72_6 HT_ (by kernel_rfl) ?_
             refine pz_ 9 22 q72_7 HT_ (by kernel_rfl) ?_
             refine pz_ 10 23 q72_8 HT_ (by kernel_rfl) ?_
             refine pz_ 11 24 q72_9 HT_ (by kernel_rfl) ?_
             refine pz_ 12 25 q72_10 HT_ (by kernel_rfl) ?_
             refine pz_ 17 30 q72_11 HT_ (by kernel_rfl) ?_
             refine pz_ 18 31 q72_12 HT_ (by kernel_rfl) ?_
             refine pz_ 19 32 q72_13 HT_ (by kernel_rfl) ?_
             refine pz_ 20 33 q72_14 HT_ (by kernel_rfl) ?_
             refine pz_ 21 34 q72_15 HT_ (by kernel_rfl) ?_
             refine pz_ 26 39 q72_16 HT_ (by kernel_rfl) ?_
             refine pz_ 27 40 q72_17 HT_ (by kernel_rfl) ?_
             refine pz_ 28 41 q72_18 HT_ (by kernel_rfl) ?_
             refine pz_ 29 42 q72_19 HT_ (by kernel_rfl) ?_
             refine pz_ 30 43 q72_20 HT_ (by kernel_rfl) ?_
             refine tz_ 5 18 q72_21 HT_ HW_ (by kernel_rfl) hHeld ?_
             refine pz_ 6 19 q72_22 HT_ (by kernel_rfl) ?_
             refine pz_ 7 20 q72_23 HT_ (by kernel_rfl) ?_
             refine tz_ 13 26 q72_24 HT_ HW_ (by kernel_rfl) hHeld ?_
             refine pz_ 14 27 q72_25 HT_ (by kernel_rfl) ?_
             refine pz_ 15 28 q72_26 HT_ (by kernel_rfl) ?_
             refine pz_ 16 29 q72_27 HT_ (by kernel_rfl) ?_
             refine tz_ 22 35 q72_28 HT_ HW_ (by kernel_rfl) hHeld ?_
             refine pz_ 23 36 q72_29 HT_ (by kernel_rfl) ?_
             refine pz_ 24 37 q72_30 HT_ (by kernel_rfl) ?_
             refine pz_ 25 38 q72_31 HT_ (by kernel_rfl) ?_
             refine tz_ 31 44 q72_32 HT_ HW_ (by kernel_rfl) hHeld ?_
             refine pz_ 32 45 q72_33 HT_ (by kernel_rfl) ?_
             refine pz_ 33 46 q72_34 HT_ (by kernel_rfl) ?_
             refine one_ (i := 34) (N := some 47) q72_35 rfl rfl (one_of HT_.out (by kernel_rfl)) (by decide) (fun K hK => ?_)
             refine value_ (w1 := ?_) (v := ?_) (by rfl) rfl ?_ ?_
             rotate_left 2
             ·
              go_simp
              constructor
              ·
               rfl
              ·
               rfl
             refine hK.out _ _ ⟨(World.cell?_alloc_lt _ _ _ (World.block_lt_of_cell? _ _ ((upc_ HB.out b1 :)))).trans ((upc_ HB.out b1 :)), (World.cell?_alloc_lt _ _ _ (World.block_lt_of_cell? _ _ ((upc_ HB.out b2 :)))).trans ((upc_ HB.out b2 :)), (World.cell?_alloc_lt _ _ _ (World.block_lt_of_cell? _ _ ((upc_ HB.out b3 :)))).trans ((upc_ HB.out b3 :)), (World.cell?_alloc_lt _ _ _ (World.block_lt_of_cell? _ _ ((upc_ HB.out b4 :)))).trans ((upc_ HB.out b4 :))⟩ (fun hHeld => ?_)
             clear hK K
             refine norm_ (a' := ?_) ?_ ?_
             rotate_left
             ·
              show Act.put _ (some 47) _ = _
              simp only [Act.put, List.setIfInBounds_toArray, List.set_cons_zero, List.set_cons_succ, i64_w, i32_w]
              rfl
             refine one_ (i := 35) (N := some 48) q72_36 rfl rfl (one_of HT_.out (by kernel_rfl)) (by decide) (fun K hK => ?_)
             refine Kd.R_append_step (Kd.int .u64) (w0 := w) w.heap.size (by rfl) (.tmp 13) (.tmp 47) 101 103 (.int .u64 0) 8 rfl Tryd.underlying101 info103 rfl (by decide) (by omega) u3 a4 (Go.bits .or .u64 (Go.bits .or .u64 (Go.bits .or .u64 (IntKind.u64.wrap ((IntKind.u64.wrap (rd l0 (ji5))) * 16777216)) (IntKind.u64.wrap ((IntKind.u64.wrap (rd l0 (ji8))) * 65536))) (IntKind.u64.wrap ((IntKind.u64.wrap (rd l0 (ji11))) * 256))) (IntKind.u64.wrap (rd l0 (ji14)))) [.int .u64 (Go.bits .or .u64 (Go.bits .or .u64 (Go.bits .or .u64 (IntKind.u64.wrap ((IntKind.u64.wrap (rd l0 (ji5))) * 16777216)) (IntKind.u64.wrap ((IntKind.u64.wrap (rd l0 (ji8))) * 65536))) (IntKind.u64.wrap ((IntKind.u64.wrap (rd l0 (ji11))) * 256))) (IntKind.u64.wrap (rd l0 (ji14))))] (fun _ => True) (fun _ => False) rfl rfl ?aP (fun _ hk => hk.elim) ?aF ?aO ?aB ?aS ?aL ?_
             (case aP => exact rfl)
             (case aB => exact (upH HB.out))
             (case aF => exact (fun _ _ => trivial))
             (case aO => exact (upR a3.out))
             (case aS => exact (below_size (upH HB.out)))
             (case aL => have := LMc17.out; omega)
             intro f8 w19 ho hb hg hat
             rw [← Ny108.out] at ho
             replace HB := yaa (hb); have d4 := yaa (ho); clear a3; clear ho hb hg hat
             refine hK.out _ _ ⟨(upc_ HB.out b1 :), (upc_ HB.out b2 :), (upc_ HB.out b3 :), (upc_ HB.out b4 :)⟩ (fun hHeld => ?_)
             clear hK K
             refine norm_ (a' := ?_) ?_ ?_
             rotate_left
             ·
              show Act.put _ (some 48) _ = _
              simp only [Act.put, List.setIfInBounds_toArray, List.set_cons_zero, List.set_cons_succ, i64_w, i32_w]
              rfl
             refine pz_ 36 3 q72_37 HT_ (by kernel_rfl) ?_
             refine done_ (done_of HT_.out (by kernel_rfl)) ?_
             try go_wp2
             go_roundg k1
             case measure => have := HK1.out; omega
             case rel => exact ⟨(y108), (wrap64 (a5 + 1)), (by first | rfl | (simp; done) | (simp [*]; done)), H', ⟨by have := HK1.out; omega⟩, ⟨by first | exact d4.out | exact upR d4.out⟩, ⟨upH HB.out⟩⟩
            ·
             rw [if_neg c17] at H
             exact absurd H (by simp)
           ·
            rw [if_neg c16] at H
            exact absurd H (by simp)
          ·
           rw [if_neg c15] at H
           exact absurd H (by simp)
         ·
          rw [if_neg c13] at H
          exact absurd H (by simp)
        ·
         rw [if_neg c12] at H
         exact absurd H (by simp)
       ·
        rw [if_neg c10] at H
        exact absurd H (by simp)
      ·
       rw [if_neg c9] at H
       exact absurd H (by simp)
     ·
      rw [if_neg c7] at H
      exact absurd H (by simp)
    ·
     rw [if_neg c6] at H
     exact absurd H (by simp)
   ·
    rw [if_neg c4] at H
    have d7 : decide (a5 < 16) = false := decide_eq_false c4; clear c4; have H' := yaa H; clear H
    go_wp2
    (try simp only [Act.put, List.setIfInBounds_toArray, List.set_cons_zero, List.set_cons_succ])
    go_loopg [3, 5] k1 (fun kq v3 v5 w' => ∃ (a1 : List Int) (a2 : Int), v5 = .int .i64 a2 ∧ Aside0 (spec_l1Words.l1 kq a1 a2 = some r) ∧ Aside0 (kq ≤ k1) ∧ Aside0 (Kd.R (Kd.int .u64) 103 w' w.heap.size (fun _ => True) v3 a1) ∧ Aside0 (Below w.heap.size w w'))
    case atStart => exact ⟨(a4), (16), (by first | rfl | (simp; done) | (simp [*]; done)), H', ⟨Nat.le_refl _⟩, ⟨by first | exact a3.out | exact upR a3.out⟩, ⟨upH HB.out⟩⟩
    case round =>
     clear H'; (try clear c1); (try clear p1); (try clear q1); (try clear hx1); (try clear p2); (try clear c4); (try clear d7); (try clear c6); (try clear c6b0); (try clear p6); (try clear c7); (try clear c7b0); (try clear c9); (try clear c9b0); (try clear c10); (try clear c10b0); (try clear p10); (try clear q10); (try clear hx10); (try clear c12); (try clear c12b0); (try clear c13); (try clear c13b0); (try clear c15); (try clear c15b0); (try clear c16); (try clear c16b0); (try clear c17); (try clear a6); (try clear a7); (try clear a8); (try clear a9); (try clear p104); (try clear p105); (try clear p106); (try clear p107); (try clear p2); (try clear q104); (try clear q105); (try clear q106); (try clear q107); obtain ⟨a1, a2, rfl, HA, HK2, a3, HB⟩ := hrel
     cases gk with
     | zero => exact absurd HA.out (by simp [spec_l1Words.l1])
     | succ k2 =>
      have H := HA.out; clear HA
      simp only [spec_l1Words.l1] at H
      by_cases c20 : a2 < 64
      ·
       rw [if_pos c20] at H
       have d8 : decide (a2 < 64) = true := decide_eq_true c20; clear c20; obtain ⟨ji21, hji21⟩ : ∃ j_ : Int, (wrap64 (a2 - 15)) = j_ := ⟨_, rfl⟩
       replace H : (if 0 ≤ (ji21) then (if (ji21) < (a1.length : Int) then ((spec_l1Turn.f (rd a1 (ji21)) 7).bind fun b7 => ((spec_l1Turn.f (rd a1 (ji21)) 18).bind fun b8 => (if 0 ≤ (wrap64 (a2 - 2)) then (if (wrap64 (a2 - 2)) < (a1.length : Int) then ((spec_l1Turn.f (rd a1 (wrap64 (a2 - 2))) 17).bind fun b5 => ((spec_l1Turn.f (rd a1 (wrap64 (a2 - 2))) 19).bind fun b6 => (if 0 ≤ (wrap64 (a2 - 16)) then (if (wrap64 (a2 - 16)) < (a1.length : Int) then (if 0 ≤ (wrap64 (a2 - 7)) then (if (wrap64 (a2 - 7)) < (a1.length : Int) then ((spec_l1Word.f (IntKind.u64.wrap ((IntKind.u64.wrap ((IntKind.u64.wrap ((rd a1 (wrap64 (a2 - 16))) + (Go.bits .xor .u64 (Go.bits .xor .u64 b7 b8) ((rd a1 (ji21)) / 8)))) + (rd a1 (wrap64 (a2 - 7))))) + (Go.bits .xor .u64 (Go.bits .xor .u64 b5 b6) ((rd a1 (wrap64 (a2 - 2))) / 1024))))).bind fun b0 => (if a1.length < 17592186044416 then (spec_l1Words.l1 k2 (a1 ++ [b0]) (wrap64 (a2 + 1))) else (none))) else (none)) else (none)) else (none)) else (none)))) else (none)) else (none)))) else (none)) else (none)) = some r := by first | (rw [hji21] at H; exact H) | (simp only [hji21] at H ⊢; exact H)
       have hji21w : (IntKind.i64.wrap (a2 - 15)) = ji21 := (i64_w _).trans hji21
       by_cases c22 : 0 ≤ (ji21)
       ·
        rw [if_pos c22] at H
        replace c22 := decide_eq_true c22
        by_cases c23 : (ji21) < (a1.length : Int)
        ·
         rw [if_pos c23] at H
         replace c23 := decide_eq_true c23; obtain ⟨b7, A24, H⟩ := bindA H; (try dsimp only at H); obtain ⟨b8, A25, H⟩ := bindA H; (try dsimp only at H); obtain ⟨ji26, hji26⟩ : ∃ j_ : Int, (wrap64 (a2 - 2)) = j_ := ⟨_, rfl⟩
         replace H : (if 0 ≤ (ji26) then (if (ji26) < (a1.length : Int) then ((spec_l1Turn.f (rd a1 (ji26)) 17).bind fun b5 => ((spec_l1Turn.f (rd a1 (ji26)) 19).bind fun b6 => (if 0 ≤ (wrap64 (a2 - 16)) then (if (wrap64 (a2 - 16)) < (a1.length : Int) then (if 0 ≤ (wrap64 (a2 - 7)) then (if (wrap64 (a2 - 7)) < (a1.length : Int) then ((spec_l1Word.f (IntKind.u64.wrap ((IntKind.u64.wrap ((IntKind.u64.wrap ((rd a1 (wrap64 (a2 - 16))) + (Go.bits .xor .u64 (Go.bits .xor .u64 b7 b8) ((rd a1 (ji21)) / 8)))) + (rd a1 (wrap64 (a2 - 7))))) + (Go.bits .xor .u64 (Go.bits .xor .u64 b5 b6) ((rd a1 (ji26)) / 1024))))).bind fun b0 => (if a1.length < 17592186044416 then (spec_l1Words.l1 k2 (a1 ++ [b0]) (wrap64 (a2 + 1))) else (none))) else (none)) else (none)) else (none)) else (none)))) else (none)) else (none)) = some r := by first | (rw [hji26] at H; exact H) | (simp only [hji26] at H ⊢; exact H)
         (try rw [hji26] at A24)
         (try rw [hji26] at A25)
         have hji26w : (IntKind.i64.wrap (a2 - 2)) = ji26 := (i64_w _).trans hji26
         by_cases c27 : 0 ≤ (ji26)
         ·
          rw [if_pos c27] at H
          replace c27 := decide_eq_true c27
          by_cases c28 : (ji26) < (a1.length : Int)
          ·
           rw [if_pos c28] at H
           replace c28 := decide_eq_true c28; obtain ⟨b5, A29, H⟩ := bindA H; (try dsimp only at H); obtain ⟨b6, A30, H⟩ := bindA H; (try dsimp only at H); obtain ⟨ji31, hji31⟩ : ∃ j_ : Int, (wrap64 (a2 - 16)) = j_ := ⟨_, rfl⟩
           replace H : (if 0 ≤ (ji31) then (if (ji31) < (a1.length : Int) then (if 0 ≤ (wrap64 (a2 - 7)) then (if (wrap64 (a2 - 7)) < (a1.length : Int) then ((spec_l1Word.f (IntKind.u64.wrap ((IntKind.u64.wrap ((IntKind.u64.wrap ((rd a1 (ji31)) + (Go.bits .xor .u64 (Go.bits .xor .u64 b7 b8) ((rd a1 (ji21)) / 8)))) + (rd a1 (wrap64 (a2 - 7))))) + (Go.bits .xor .u64 (Go.bits .xor .u64 b5 b6) ((rd a1 (ji26)) / 1024))))).bind fun b0 => (if a1.length < 17592186044416 then (spec_l1Words.l1 k2 (a1 ++ [b0]) (wrap64 (a2 + 1))) else (none))) else (none)) else (none)) else (none)) else (none)) = some r := by first | (rw [hji31] at H; exact H) | (simp only [hji31] at H ⊢; exact H)
           (try rw [hji31] at A24)
           (try rw [hji31] at A25)
           (try rw [hji31] at A29)
           (try rw [hji31] at A30)
           have hji31w : (IntKind.i64.wrap (a2 - 16)) = ji31 := (i64_w _).trans hji31
           by_cases c32 : 0 ≤ (ji31)
           ·
            rw [if_pos c32] at H
            replace c32 := decide_eq_true c32
            by_cases c33 : (ji31) < (a1.length : Int)
            ·
             rw [if_pos c33] at H
             replace c33 := decide_eq_true c33; obtain ⟨ji34, hji34⟩ : ∃ j_ : Int, (wrap64 (a2 - 7)) = j_ := ⟨_, rfl⟩
             replace H : (if 0 ≤ (ji34) then (if (ji34) < (a1.length : Int) then ((spec_l1Word.f (IntKind.u64.wrap ((IntKind.u64.wrap ((IntKind.u64.wrap ((rd a1 (ji31)) + (Go.bits .xor .u64 (Go.bits .xor .u64 b7 b8) ((rd a1 (ji21)) / 8)))) + (rd a1 (ji34)))) + (Go.bits .xor .u64 (Go.bits .xor .u64 b5 b6) ((rd a1 (ji26)) / 1024))))).bind fun b0 => (if a1.length < 17592186044416 then (spec_l1Words.l1 k2 (a1 ++ [b0]) (wrap64 (a2 + 1))) else (none))) else (none)) else (none)) = some r := by first | (rw [hji34] at H; exact H) | (simp only [hji34] at H ⊢; exact H)
             (try rw [hji34] at A24)
             (try rw [hji34] at A25)
             (try rw [hji34] at A29)
             (try rw [hji34] at A30)
             have hji34w : (IntKind.i64.wrap (a2 - 7)) = ji34 := (i64_w _).trans hji34
             by_cases c35 : 0 ≤ (ji34)
             ·
              rw [if_pos c35] at H
              replace c35 := decide_eq_true c35
              by_cases c36 : (ji34) < (a1.length : Int)
              ·
               rw [if_pos c36] at H
               replace c36 := decide_eq_true c36; obtain ⟨b0, A37, H⟩ := bindA H; (try dsimp only at H)
               by_cases c38 : a1.length < 17592186044416
               ·
                rw [if_pos c38] at H
                have LMc38 := yaa c38; clear c38; obtain ⟨y124, hy124⟩ : ∃ y_ : List Int, y_ = (a1 ++ [b0]) := ⟨_, rfl⟩
                replace H : (spec_l1Words.l1 k2 y124 (wrap64 (a2 + 1))) = some r := by first | (rw [hy124]; with_reducible exact H) | (have H2_ := (Option.bind_some _ _).symm.trans H; rw [hy124]; with_reducible exact H2_) | (have H2_ := (Option.bind_some _ _).symm.trans H; with_reducible exact H2_) | with_reducible exact H | (rw [hy124]; exact H) | exact H
                have Ny124 := yaa hy124; clear hy124; have H' := yaa H; clear H
                try go_wp2
                replace a3 := yaa (Kd.R_drew a3.out); replace HB := yaa (below_drew1 HB.out); obtain ⟨g3, d6, d9⟩ := Kd.R_slice a3.out
                (first | subst d9 | (injection d9 with f1_ f2_ f3_; have f4_ := f1_.symm; have f5_ := f3_.symm; clear f1_ f2_ f3_; subst f4_; subst f5_))
                have p111 : 0 ≤ ((ji21) : Int) := of_decide_eq_true (by assumption); have q111 : (ji21) < (a1.length : Int) := of_decide_eq_true (by assumption); obtain ⟨ad111, e4, b9⟩ := Kd.at_int (Kd.R_reads' a3.out).2.2 (ji21) p111 q111
                cases e4
                replace p111 := eq_true p111; replace q111 := eq_true q111; have p113 : 0 ≤ ((ji21) : Int) := of_decide_eq_true (by assumption); have q113 : (ji21) < (a1.length : Int) := of_decide_eq_true (by assumption); obtain ⟨ad113, e5, c2⟩ := Kd.at_int (Kd.R_reads' a3.out).2.2 (ji21) p113 q113; obtain rfl : ad111 = ad113 := (by injection e5); replace p113 := eq_true p113; replace q113 := eq_true q113; have p115 : 0 ≤ ((ji21) : Int) := of_decide_eq_true (by assumption); have q115 : (ji21) < (a1.length : Int) := of_decide_eq_true (by assumption); obtain ⟨ad115, e6, c3⟩ := Kd.at_int (Kd.R_reads' a3.out).2.2 (ji21) p115 q115; obtain rfl : ad111 = ad115 := (by injection e6); replace p115 := eq_true p115; replace q115 := eq_true q115
                refine start_ (n := 21) (S := fun w' => w'.cell? (ad111.add ((ji21)).toNat) = some (.int .u64 (rd a1 (ji21))) ∧ w'.cell? (ad111.add ((ji21)).toNat) = some (.int .u64 (rd a1 (ji21))) ∧ w'.cell? (ad111.add ((ji21)).toNat) = some (.int .u64 (rd a1 (ji21)))) (ds := []) q72_38 (by kernel_rfl) rfl rfl ⟨b9, c2, c3⟩ (fun hHeld => ?_); refine with_tabW spec_l1Words.tab9 spec_l1Words.bits9 (fun HT_ HW_ => ?_)
                generalize wr.drew = w39 at a3 HB b9 c2 c3 hHeld ⊢
                refine pz_ 0 53 q72_39 HT_ (by kernel_rfl) ?_
                refine pz_ 1 54 q72_40 HT_ (by kernel_rfl) ?_
                refine pz_ 2 55 q72_41 HT_ (by kernel_rfl) ?_
                refine pz_ 3 56 q72_42 HT_ (by kernel_rfl) ?_
                refine pz_ 6 59 q72_43 HT_ (by kernel_rfl) ?_
                refine pz_ 7 60 q72_44 HT_ (by kernel_rfl) ?_
                refine pz_ 8 61 q72_45 HT_ (by kernel_rfl) ?_
                refine pz_ 9 62 q72_46 HT_ (by kernel_rfl) ?_
                refine pz_ 13 66 q72_47 HT_ (by kernel_rfl) ?_
                refine pz_ 14 67 q72_48 HT_ (by kernel_rfl) ?_
                refine pz_ 15 68 q72_49 HT_ (by kernel_rfl) ?_
                refine pz_ 16 69 q72_50 HT_ (by kernel_rfl) ?_
                refine tz_ 4 57 q72_51 HT_ HW_ (by kernel_rfl) hHeld ?_
                refine tz_ 10 63 q72_52 HT_ HW_ (by kernel_rfl) hHeld ?_
                refine tz_ 17 70 q72_53 HT_ HW_ (by kernel_rfl) hHeld ?_
                refine pz_ 18 71 q72_54 HT_ (by kernel_rfl) ?_
                refine one_ (i := 5) (N := some 58) q72_55 rfl rfl (one_of HT_.out (by kernel_rfl)) (by decide) (fun K hK => ?_)
                refine goes_ Tryd.func84 (by kernel_rfl) rfl #[.int .u64 (rd a1 (ji21)), .int .u64 7] (by rfl) rfl rfl (by (try simp only [List.map_toArray, List.map_cons, List.map_nil]); first | done | (simp only [hji21]; rfl) | rfl | (simp only [List.length_drop, List.length_take]; rfl)) ?_
                with_reducible refine (spec_l1Turn.calls (rd a1 (ji21)) 7 b7 _ A24.out).mono ?_
                rintro e w' ⟨rfl, ⟨nd, rfl⟩⟩; refine ⟨_, rfl, ?_⟩
                refine hK.out _ _ ⟨hHeld.1, hHeld.2.1, hHeld.2.2⟩ (fun hHeld => ?_)
                clear hK K
                refine norm_ (a' := ?_) ?_ ?_
                rotate_left
                ·
                 show Act.put _ (some 58) _ = _
                 simp only [Act.put, List.setIfInBounds_toArray, List.set_cons_zero, List.set_cons_succ, i64_w, i32_w]
                 rfl
                refine one_ (i := 11) (N := some 64) q72_56 rfl rfl (one_of HT_.out (by kernel_rfl)) (by decide) (fun K hK => ?_)
                refine goes_ Tryd.func84 (by kernel_rfl) rfl #[.int .u64 (rd a1 (ji21)), .int .u64 18] (by rfl) rfl rfl (by (try simp only [List.map_toArray, List.map_cons, List.map_nil]); first | done | (simp only [hji21]; rfl) | rfl | (simp only [List.length_drop, List.length_take]; rfl)) ?_
                with_reducible refine (spec_l1Turn.calls (rd a1 (ji21)) 18 b8 _ A25.out).mono ?_
                rintro e w' ⟨rfl, ⟨nd, rfl⟩⟩; refine ⟨_, rfl, ?_⟩
                refine hK.out _ _ ⟨hHeld.1, hHeld.2.1, hHeld.2.2⟩ (fun hHeld => ?_)
                clear hK K
                refine norm_ (a' := ?_) ?_ ?_
                rotate_left
                ·
                 show Act.put _ (some 64) _ = _
                 simp only [Act.put, List.setIfInBounds_toArray, List.set_cons_zero, List.set_cons_succ, i64_w, i32_w]
                 rfl
                refine pz_ 12 65 q72_57 HT_ (by kernel_rfl) ?_
                refine pz_ 19 72 q72_58 HT_ (by kernel_rfl) ?_
                refine pz_ 20 6 q72_59 HT_ (by kernel_rfl) ?_
                refine done_ (done_of HT_.out (by kernel_rfl)) ?_
                try go_wp2
                (try (rw [drewN_self w39]; generalize hq_ : World.drewN w39 _ = w39; have n0_ : Aside0 (Kd.R (Kd.int .u64) 103 w39 w.heap.size (fun _ => True) (.slice (some ad111) a1.length d6) a1) := ⟨by rw [← hq_]; exact (upR a3.out)⟩; have n1_ : Aside0 (Below w.heap.size w w39) := ⟨by rw [← hq_]; exact (upH HB.out)⟩; clear a3 HB hq_; have a3 := n0_; have HB := n1_; clear n0_ n1_))
                replace a3 := yaa (Kd.R_drew a3.out); replace HB := yaa (below_drew1 HB.out); have p116 : 0 ≤ ((ji26) : Int) := of_decide_eq_true (by assumption); have q116 : (ji26) < (a1.length : Int) := of_decide_eq_true (by assumption); obtain ⟨ad116, e7, c5⟩ := Kd.at_int (Kd.R_reads' a3.out).2.2 (ji26) p116 q116; obtain rfl : ad111 = ad116 := (by injection e7); replace p116 := eq_true p116; replace q116 := eq_true q116; have p118 : 0 ≤ ((ji26) : Int) := of_decide_eq_true (by assumption); have q118 : (ji26) < (a1.length : Int) := of_decide_eq_true (by assumption); obtain ⟨ad118, e8, c8⟩ := Kd.at_int (Kd.R_reads' a3.out).2.2 (ji26) p118 q118; obtain rfl : ad111 = ad118 := (by injection e8); replace p118 := eq_true p118; replace q118 := eq_true q118; have p120 : 0 ≤ ((ji26) : Int) := of_decide_eq_true (by assumption); have q120 : (ji26) < (a1.length : Int) := of_decide_eq_true (by assumption); obtain ⟨ad120, e9, d0⟩ := Kd.at_int (Kd.R_reads' a3.out).2.2 (ji26) p120 q120; obtain rfl : ad111 = ad120 := (by injection e9); replace p120 := eq_true p120; replace q120 := eq_true q120
                refine start_ (n := 21) (S := fun w' => w'.cell? (ad111.add ((ji26)).toNat) = some (.int .u64 (rd a1 (ji26))) ∧ w'.cell? (ad111.add ((ji26)).toNat) = some (.int .u64 (rd a1 (ji26))) ∧ w'.cell? (ad111.add ((ji26)).toNat) = some (.int .u64 (rd a1 (ji26)))) (ds := []) q72_38 (by kernel_rfl) rfl rfl ⟨c5, c8, d0⟩ (fun hHeld => ?_); refine with_tabW spec_l1Words.tab10 spec_l1Words.bits10 (fun HT_ HW_ => ?_)
                generalize w39.drew = w41 at a3 HB c5 c8 d0 hHeld ⊢
                refine pz_ 0 73 q72_39 HT_ (by kernel_rfl) ?_
                refine pz_ 1 74 q72_40 HT_ (by kernel_rfl) ?_
                refine pz_ 2 75 q72_41 HT_ (by kernel_rfl) ?_
                refine pz_ 3 76 q72_42 HT_ (by kernel_rfl) ?_
                refine pz_ 6 79 q72_43 HT_ (by kernel_rfl) ?_
                refine pz_ 7 80 q72_44 HT_ (by kernel_rfl) ?_
                refine pz_ 8 81 q72_45 HT_ (by kernel_rfl) ?_
                refine pz_ 9 82 q72_46 HT_ (by kernel_rfl) ?_
                refine pz_ 13 86 q72_47 HT_ (by kernel_rfl) ?_
                refine pz_ 14 87 q72_48 HT_ (by kernel_rfl) ?_
                refine pz_ 15 88 q72_49 HT_ (by kernel_rfl) ?_
                refine pz_ 16 89 q72_50 HT_ (by kernel_rfl) ?_
                refine tz_ 4 77 q72_51 HT_ HW_ (by kernel_rfl) hHeld ?_
                refine tz_ 10 83 q72_52 HT_ HW_ (by kernel_rfl) hHeld ?_
                refine tz_ 17 90 q72_53 HT_ HW_ (by kernel_rfl) hHeld ?_
                refine pz_ 18 91 q72_54 HT_ (by kernel_rfl) ?_
                refine one_ (i := 5) (N := some 78) q72_55 rfl rfl (one_of HT_.out (by kernel_rfl)) (by decide) (fun K hK => ?_)
                refine goes_ Tryd.func84 (by kernel_rfl) rfl #[.int .u64 (rd a1 (ji26)), .int .u64 17] (by rfl) rfl rfl (by (try simp only [List.map_toArray, List.map_cons, List.map_nil]); first | done | (simp only [hji26]; rfl) | rfl | (simp only [List.length_drop, List.length_take]; rfl)) ?_
                with_reducible refine (spec_l1Turn.calls (rd a1 (ji26)) 17 b5 _ A29.out).mono ?_
                rintro e w' ⟨rfl, ⟨nd, rfl⟩⟩; refine ⟨_, rfl, ?_⟩
                refine hK.out _ _ ⟨hHeld.1, hHeld.2.1, hHeld.2.2⟩ (fun hHeld => ?_)
                clear hK K
                refine norm_ (a' := ?_) ?_ ?_
                rotate_left
                ·
                 show Act.put _ (some 78) _ = _
                 simp only [Act.put, List.setIfInBounds_toArray, List.set_cons_zero, List.set_cons_succ, i64_w, i32_w]
                 rfl
                refine one_ (i := 11) (N := some 84) q72_56 rfl rfl (one_of HT_.out (by kernel_rfl)) (by decide) (fun K hK => ?_)
                refine goes_ Tryd.func84 (by kernel_rfl) rfl #[.int .u64 (rd a1 (ji26)), .int .u64 19] (by rfl) rfl rfl (by (try simp only [List.map_toArray, List.map_cons, List.map_nil]); first | done | (simp only [hji26]; rfl) | rfl | (simp only [List.length_drop, List.length_take]; rfl)) ?_
                with_reducible refine (spec_l1Turn.calls (rd a1 (ji26)) 19 b6 _ A30.out).mono ?_
                rintro e w' ⟨rfl, ⟨nd, rfl⟩⟩; refine ⟨_, rfl, ?_⟩
                refine hK.out _ _ ⟨hHeld.1, hHeld.2.1, hHeld.2.2⟩ (fun hHeld => ?_)
                clear hK K
                refine norm_ (a' := ?_) ?_ ?_
                rotate_left
                ·
                 show Act.put _ (some 84) _ = _
                 simp only [Act.put, List.setIfInBounds_toArray, List.set_cons_zero, List.set_cons_succ, i64_w, i32_w]
                 rfl
                refine pz_ 12 85 q72_57 HT_ (by kernel_rfl) ?_
                refine pz_ 19 92 q72_58 HT_ (by kernel_rfl) ?_
                refine pz_ 20 7 q72_59 HT_ (by kernel_rfl) ?_
                refine done_ (done_of HT_.out (by kernel_rfl)) ?_
                try go_wp2
                (try (rw [drewN_self w41]; generalize hq_ : World.drewN w41 _ = w41; have n0_ : Aside0 (Kd.R (Kd.int .u64) 103 w41 w.heap.size (fun _ => True) (.slice (some ad111) a1.length d6) a1) := ⟨by rw [← hq_]; exact (upR a3.out)⟩; have n1_ : Aside0 (Below w.heap.size w w41) := ⟨by rw [← hq_]; exact (upH HB.out)⟩; clear a3 HB hq_; have a3 := n0_; have HB := n1_; clear n0_ n1_))
                replace a3 := yaa (Kd.R_drew a3.out); replace HB := yaa (below_drew1 HB.out); have p121 : 0 ≤ ((ji31) : Int) := of_decide_eq_true (by assumption); have q121 : (ji31) < (a1.length : Int) := of_decide_eq_true (by assumption); obtain ⟨ad121, f0, d1⟩ := Kd.at_int (Kd.R_reads' a3.out).2.2 (ji31) p121 q121; obtain rfl : ad111 = ad121 := (by injection f0); replace p121 := eq_true p121; replace q121 := eq_true q121; have p122 : 0 ≤ ((ji34) : Int) := of_decide_eq_true (by assumption); have q122 : (ji34) < (a1.length : Int) := of_decide_eq_true (by assumption); obtain ⟨ad122, f1, d2⟩ := Kd.at_int (Kd.R_reads' a3.out).2.2 (ji34) p122 q122; obtain rfl : ad111 = ad122 := (by injection f1); replace p122 := eq_true p122; replace q122 := eq_true q122
                refine start_ (n := 20) (S := fun w' => w'.cell? (ad111.add ((ji31)).toNat) = some (.int .u64 (rd a1 (ji31))) ∧ w'.cell? (ad111.add ((ji34)).toNat) = some (.int .u64 (rd a1 (ji34)))) (ds := [17, 18]) q72_60 (by kernel_rfl) rfl rfl ⟨d1, d2⟩ (fun hHeld => ?_); refine with_tabW spec_l1Words.tab11 spec_l1Words.bits11 (fun HT_ HW_ => ?_)
                generalize w41.drew = w42 at a3 HB d1 d2 hHeld ⊢
                refine pz_ 0 93 q72_61 HT_ (by kernel_rfl) ?_
                refine pz_ 1 94 q72_62 HT_ (by kernel_rfl) ?_
                refine pz_ 2 95 q72_63 HT_ (by kernel_rfl) ?_
                refine pz_ 3 96 q72_64 HT_ (by kernel_rfl) ?_
                refine pz_ 4 97 q72_65 HT_ (by kernel_rfl) ?_
                refine pz_ 6 99 q72_66 HT_ (by kernel_rfl) ?_
                refine pz_ 8 101 q72_67 HT_ (by kernel_rfl) ?_
                refine pz_ 9 102 q72_68 HT_ (by kernel_rfl) ?_
                refine pz_ 10 103 q72_69 HT_ (by kernel_rfl) ?_
                refine pz_ 11 104 q72_70 HT_ (by kernel_rfl) ?_
                refine pz_ 14 107 q72_71 HT_ (by kernel_rfl) ?_
                refine tz_ 5 98 q72_72 HT_ HW_ (by kernel_rfl) hHeld ?_
                refine pz_ 7 100 q72_73 HT_ (by kernel_rfl) ?_
                refine tz_ 12 105 q72_74 HT_ HW_ (by kernel_rfl) hHeld ?_
                refine pz_ 13 106 q72_75 HT_ (by kernel_rfl) ?_
                refine pz_ 15 108 q72_76 HT_ (by kernel_rfl) ?_
                refine one_ (i := 16) (N := some 109) q72_77 rfl rfl (one_of HT_.out (by kernel_rfl)) (by decide) (fun K hK => ?_)
                refine goes_ Tryd.func74 (by kernel_rfl) rfl #[.int .u64 (IntKind.u64.wrap ((IntKind.u64.wrap ((IntKind.u64.wrap ((rd a1 (ji31)) + (Go.bits .xor .u64 (Go.bits .xor .u64 b7 b8) ((rd a1 (ji21)) / 8)))) + (rd a1 (ji34)))) + (Go.bits .xor .u64 (Go.bits .xor .u64 b5 b6) ((rd a1 (ji26)) / 1024))))] (by rfl) rfl rfl (by (try simp only [List.map_toArray, List.map_cons, List.map_nil]); first | done | (simp only [hji21, hji26, hji31, hji34]; rfl) | rfl | (simp only [List.length_drop, List.length_take]; rfl)) ?_
                with_reducible refine (spec_l1Word.calls (IntKind.u64.wrap ((IntKind.u64.wrap ((IntKind.u64.wrap ((rd a1 (ji31)) + (Go.bits .xor .u64 (Go.bits .xor .u64 b7 b8) ((rd a1 (ji21)) / 8)))) + (rd a1 (ji34)))) + (Go.bits .xor .u64 (Go.bits .xor .u64 b5 b6) ((rd a1 (ji26)) / 1024)))) b0 _ A37.out).mono ?_
                rintro e w' ⟨rfl, ⟨nd, rfl⟩⟩; refine ⟨_, rfl, ?_⟩
                refine hK.out _ _ ⟨hHeld.1, hHeld.2⟩ (fun hHeld => ?_)
                clear hK K
                refine norm_ (a' := ?_) ?_ ?_
                rotate_left
                ·
                 show Act.put _ (some 109) _ = _
                 simp only [Act.put, List.setIfInBounds_toArray, List.set_cons_zero, List.set_cons_succ, i64_w, i32_w]
                 rfl
                refine last_ (i := 17) (N := some 110) q72_78 rfl rfl (one_of HT_.out (by kernel_rfl)) (by decide) (fun K hK => ?_)
                refine value_ (w1 := ?_) (v := ?_) (by rfl) rfl ?_ ?_
                rotate_left 2
                ·
                 go_simp
                 constructor
                 ·
                  rfl
                 ·
                  rfl
                refine hK.out _ _ ?_
                clear hK K
                refine norm_ (a' := ?_) ?_ ?_
                rotate_left
                ·
                 show Act.put _ (some 110) _ = _
                 simp only [Act.put, List.setIfInBounds_toArray, List.set_cons_zero, List.set_cons_succ, i64_w, i32_w]
                 rfl
                refine last_ (i := 18) (N := some 111) q72_79 rfl rfl (one_of HT_.out (by kernel_rfl)) (by decide) (fun K hK => ?_)
                refine Kd.R_append_step (Kd.int .u64) (w0 := w) w.heap.size (by rfl) (.tmp 93) (.tmp 110) 101 103 (.int .u64 0) 8 rfl Tryd.underlying101 info103 rfl (by decide) (by omega) (.slice (some ad111) a1.length d6) a1 b0 [.int .u64 b0] (fun _ => True) (fun _ => False) rfl rfl ?aP (fun _ hk => hk.elim) ?aF ?aO ?aB ?aS ?aL ?_
                (case aP => exact rfl)
                (case aB => exact (upH HB.out))
                (case aF => exact (fun _ _ => trivial))
                (case aO => exact (upR a3.out))
                (case aS => exact (below_size (upH HB.out)))
                (case aL => have := LMc38.out; omega)
                intro g4 w43 ho hb hg hat
                rw [← Ny124.out] at ho
                replace HB := yaa (hb); have d5 := yaa (ho); clear a3; clear ho hb hg hat
                refine hK.out _ _ ?_
                clear hK K
                refine norm_ (a' := ?_) ?_ ?_
                rotate_left
                ·
                 show Act.put _ (some 111) _ = _
                 simp only [Act.put, List.setIfInBounds_toArray, List.set_cons_zero, List.set_cons_succ, i64_w, i32_w]
                 rfl
                refine pz_ 19 3 q72_80 HT_ (by kernel_rfl) ?_
                refine done_ (done_of HT_.out (by kernel_rfl)) ?_
                try go_wp2
                go_roundg k2
                case measure => have := HK1.out; have := HK2.out; omega
                case rel => exact ⟨(y124), (wrap64 (a2 + 1)), (by first | rfl | (simp; done) | (simp [*]; done)), H', ⟨by have := HK1.out; have := HK2.out; omega⟩, ⟨by first | exact d5.out | exact upR d5.out⟩, ⟨upH HB.out⟩⟩
               ·
                rw [if_neg c38] at H
                exact absurd H (by simp)
              ·
               rw [if_neg c36] at H
               exact absurd H (by simp)
             ·
              rw [if_neg c35] at H
              exact absurd H (by simp)
            ·
             rw [if_neg c33] at H
             exact absurd H (by simp)
           ·
            rw [if_neg c32] at H
            exact absurd H (by simp)
          ·
           rw [if_neg c28] at H
           exact absurd H (by simp)
         ·
          rw [if_neg c27] at H
          exact absurd H (by simp)
        ·
         rw [if_neg c23] at H
         exact absurd H (by simp)
       ·
        rw [if_neg c22] at H
        exact absurd H (by simp)
      ·
       rw [if_neg c20] at H
       have d8 : decide (a2 < 64) = false := decide_eq_false c20; clear c20; obtain rfl := Option.some.inj H
       go_wp2
       go_ret
       exact ⟨_, by first | rfl | (simp [*, errW_none, errW_some] <;> rfl), by first | exact a3.out | exact upR a3.out, upH HB.out⟩
end
end Go.Proofs.YtmbkhindhndccaaDoor.X
