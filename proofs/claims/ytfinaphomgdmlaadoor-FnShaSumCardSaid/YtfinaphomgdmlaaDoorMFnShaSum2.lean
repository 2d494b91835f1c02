/- Lemmas and contracts for the law FnShaSum, part 2: of the program's functions, and over data alone. Conditions: the listed package-level variables begin as the program's text lays them (tied by the card). -/
import Derived.Test.YtfinaphomgdmlaaDoorMFnShaSum1
import Derived.Test.YtfinaphomgdmlaaDoorProg
import Derived.Below
import Derived.Deep.Draws
import Derived.Deep.AppendLies
import Derived.Maps.AppendAt
import Derived.OwnWalk
import Derived.Laws.BytesArg
import Derived.Laws.MakeOwn
import Derived.Laws.OwnMore
import Derived.Deep.OwnRows
import Derived.Tactics
import Derived.Lib.ConvBytes
import Derived.Laws.Slices
import Derived.WalkKit
import Derived.KernelRfl
import Derived.RowKit3
import Derived.Deep.LoopGhost
import Derived.Deep.QuietTactic
import Derived.BigQuiet
import Derived.WideLaws
import Derived.Deep.DeepCutAuto
import Derived.Deep.CutBlock
import Derived.Deep.RegionHeld3
import Derived.Laws.Rows
import Derived.Lib.AppendStr
import Derived.ArgAppend
import Derived.Laws.IdiomCopy
import Derived.OrdersHeld
import Derived.Laws.BitsLemmas
import Derived.RowKit
namespace Go.Proofs.YtfinaphomgdmlaaDoorW.PrintLast
open Go.RowKit Go.Proofs.YtfinaphomgdmlaaDoorW.PrintWords
variable {P : Program} {ops : Array Oper} {Q : Exit → Act → World → Prop} {S : World → Prop} {ds : List Nat}
/-- An operation that yields in every world. -/
theorem pz_ {T : Bool × List (List Nat × List Nat)} {oi : Oper} {v : Value} {fuel : Nat} {l : Array Bool} {a : Act} {w : World} (i d : Nat) (l' : Array Bool) (hT : Aside0 (rtab .any ops = T)) (hc : anyT T l.toList l'.toList i = true) {a' : Act}
    (h : wpAnyLast P .any ops Q S ds fuel l' a' w)
    (hi : ops[i]? = some oi := by rfl) (hN : oi.dst = some d := by rfl) (hw : Region.wanted oi (yielded ops a.tmps) = true := by rfl)
    (hy : ∀ w', (execOp a.eval oi).run P w' = .ok (.value v) w' := by (intro w'; go_simp; with_reducible rfl))
    (ha : a.put (some d) v = a' := by (simp only [Act.put, List.setIfInBounds_toArray, List.set_cons_zero, List.set_cons_succ, i64_w, i32_w]; rfl))
    (hQ : ∀ c a w, Q (.panic c) (a.put oi.dst v) w → Q (.panic c) a w := by exact fun _ _ _ h => h) :
    wpAnyLast P .any ops Q S ds (fuel + 1) l a w :=
  pure_ l' hi hN (any_of hT.out hc) hQ (Or.inl ⟨hw, hy⟩) ha h
/-- An operation that reads what S says. -/
theorem tz_ {T : Bool × List (List Nat × List Nat)} {B : List Nat} {oi : Oper} {v : Value} {fuel : Nat} {l : Array Bool} {a : Act} {w : World} (i d : Nat) (l' : Array Bool) (hT : Aside0 (rtab .any ops = T)) (hB : Aside0 (waitsOk T.2 B = true)) (hc : takeW T B ds l.toList l'.toList i = true) (hS : S w) {a' : Act}
    (h : wpAnyLast P .any ops Q S ds fuel l' a' w)
    (hi : ops[i]? = some oi := by rfl) (hN : oi.dst = some d := by rfl) (hw : Region.wanted oi (yielded ops a.tmps) = true := by rfl)
    (hy : ∀ w', S w' → (execOp a.eval oi).run P w' = .ok (.value v) w' := by (intro w' hs; go_simp; with_reducible rfl))
    (ha : a.put (some d) v = a' := by (simp only [Act.put, List.setIfInBounds_toArray, List.set_cons_zero, List.set_cons_succ, i64_w, i32_w]; rfl))
    (hQ : ∀ c a w, Q (.panic c) (a.put oi.dst v) w → Q (.panic c) a w := by exact fun _ _ _ h => h) :
    wpAnyLast P .any ops Q S ds (fuel + 1) l a w :=
  take_ l' hi hN (take_ofW hT.out hB.out hc) hQ (Or.inl ⟨hw, hy⟩) hS ha h
/-! ### What is kept in a world that was made of another one by making blocks and by drawing -/
class UpW (w w' : World) : Prop where
  step : ∀ K : World → Prop, (∀ v O, K v → K (v.alloc O)) → (∀ v, K v → K v.drew) → (∀ v n, K v → K (v.drewN n)) → K w → K w'
instance upw_refl (w : World) : UpW w w := ⟨fun _ _ _ _ h => h⟩
instance upw_alloc (w w' : World) (O : Obj) [h : UpW w w'] : UpW w (w'.alloc O) := ⟨fun K a b c k => a _ _ (h.step K a b c k)⟩
instance upw_drew (w w' : World) [h : UpW w w'] : UpW w w'.drew := ⟨fun K a b c k => b _ (h.step K a b c k)⟩
instance upw_drewN (w w' : World) (n : Nat) [h : UpW w w'] : UpW w (w'.drewN n) := ⟨fun K a b c k => c _ _ (h.step K a b c k)⟩
theorem upB {w w' : World} {g : Nat} {o : Obj} (h : w.heap[g]? = some o) [u : UpW w w'] : w'.heap[g]? = some o := u.step (fun v => v.heap[g]? = some o) (fun _ O k => blk_alloc k O) (fun _ k => blk_drew k) (fun _ n k => blk_drewN k n) h
theorem upR {α : Type} {d : Kd α} {e base : Nat} {ok : Nat → Prop} {w w' : World} {v : Value} {xs : List α} (h : d.R e w base ok v xs) [u : UpW w w'] : d.R e w' base ok v xs := u.step (fun x => d.R e x base ok v xs) (fun _ O k => Kd.R_alloc k O) (fun _ k => Kd.R_drew k) (fun _ n k => Kd.R_drewN k n) h
theorem upH {w0 w w' : World} (h : Below w0.heap.size w0 w) [u : UpW w w'] : Below w0.heap.size w0 w' := u.step (fun x => Below w0.heap.size w0 x) (fun _ O k => below_alloc k O) (fun _ k => below_drew1 k) (fun _ n k => pw_below_drewN k n) h
/-- One world made of another by making a block or by drawing. -/
class OneW (w : outParam World) (w' : World) : Prop where
  up : UpW w w'
instance onew_alloc (w : World) (O : Obj) : OneW w (w.alloc O) := ⟨inferInstance⟩
instance onew_drew (w : World) : OneW w w.drew := ⟨inferInstance⟩
instance onew_drewN (w : World) (n : Nat) : OneW w (w.drewN n) := ⟨inferInstance⟩
/-! ### Cells of a block -/
section
variable {w : World} {g t : Nat} {a b c d e f i j k : Value}
variable {cs : Array Value}
end
theorem upc_ {w w' : World} {a : Addr} {v : Value} (hb : Below w.heap.size w w') (h : w.cell? a = some v) : w'.cell? a = some v := (hb.cell (World.block_lt_of_cell? w _ h)).trans h
/-- A step of what a function comes to. -/
theorem bindA {α β : Type} {x : Option α} {f : α → Option β} {r : β} (H : x.bind f = some r) : ∃ a, Aside0 (x = some a) ∧ f a = some r := by
  obtain ⟨a, h, k⟩ := Option.bind_eq_some_iff.mp H
  exact ⟨a, ⟨h⟩, k⟩
/-- n signs, off a number. -/
def bl_ (n m : Nat) : Array Bool := ((List.range n).map fun i => m.testBit i).toArray
theorem bindY {α β : Type} {L : α} {F : α → Option β} {r : Option β} (H : (some L).bind F = r) : ∃ y, y = L ∧ F y = r := ⟨L, rfl, H⟩
section
variable {P : Program} {ops : Array Oper} {rest : List Oper} {o : Oper} {a : Act} {Q : Exit → Act → World → Prop}
/-- A block is made. -/
theorem bx_ {W : World} (N : Tmp) (hd : o.dst = some N) (cs : Array Value) (t : TypeId)
    (h : ∀ g, g = W.heap.size → ∀ w1, w1.heap[g]? = some (.cells cs t (0, 0)) → Below W.heap.size W w1 → wpList P ops Q rest (a.put o.dst (.pointer (some ⟨g, 0, none⟩))) w1)
    (hg : o.guard = none := by first | rfl | (simp [Region.wanted, yielded, *]; done))
    (hr : (execOp a.eval o).run P W = .ok (.value (.pointer (some ⟨W.heap.size, 0, none⟩))) (W.alloc (.cells cs t (0, 0))) := by first | (go_simp; done) | (go_simp; rfl)) : wpList P ops Q (o :: rest) a W := box_event hg hd hr h
theorem gc_ (f : FuncId) {W : World} {as1 : Array Operand} {ts : Array TypeId} (_ho : o.op = .call { callee := .value (.func f), args := as1, argTypes := ts }) (h : wpList P ops Q (o :: rest) a W) : wpList P ops Q (o :: rest) a W := h
theorem gd_ (N : Tmp) {W : World} (_hN : o.dst = some N) (h : wpList P ops Q (o :: rest) a W) : wpList P ops Q (o :: rest) a W := h
/-- A call. -/
theorem gl_ {w : World} (N : Option Tmp) (hd : o.dst = N) {f : FuncId} {fn : Func} {aa : Array Operand} {ts : Array TypeId} (hf : P.funcs[f]? = some fn) (args : Array Value)
    (h : Calls P f args w fun e w' => ∃ v, e = .returned v ∧ wpList P ops Q rest (a.put N v) w') (hg : o.guard = none := by rfl) (hname : (fn.name == "runtime.NumGoroutine") = false := by kernel_rfl) (hb : fn.body.isSome = true := by rfl)
    (hop : o.op = .call { callee := .value (.func f), args := aa, argTypes := ts } := by rfl) (hargs : aa.map a.eval = args := by ((try simp only [List.map_toArray, List.map_cons, List.map_nil]); first | done | rfl | (simp only [List.length_drop, List.length_take]; rfl))) : wpList P ops Q (o :: rest) a w :=
  goesL_ N hd hg hf hname hb args hop hargs h
end
end Go.Proofs.YtfinaphomgdmlaaDoorW.PrintLast
namespace Go.Proofs.YtfinaphomgdmlaaDoor.X
open Go.RowKit Go.Proofs.YtfinaphomgdmlaaDoorW.PrintWords Go.Proofs.YtfinaphomgdmlaaDoorW.PrintLast Go.Proofs.YtfinaphomgdmlaaDoorW.PrintMore
attribute [local go_sem] max2_int min2_int max_two min_two max_three min_three max_four min_four
set_option linter.unusedVariables false
set_option linter.unusedSimpArgs false

section
def errW : Option Int → Value
  | none => .nilIface
  | some c => .iface 0 (.int .i64 c)
theorem errW_none : errW none = .nilIface := rfl
theorem errW_some (c : Int) : errW (some c) = .iface 0 (.int .i64 c) := rfl

theorem info5 : (Tryd.prog.info? 5).map (fun i => (i.zero, i.size, i.bytes)) = some (some (.int .u8 0), 1, 1) := by kernel_rfl
theorem info40 : (Tryd.prog.info? 40).map (fun i => (i.zero, i.size, i.bytes)) = some (some (.int .u64 0), 1, 8) := by kernel_rfl
-- the values' own types
end
section
def spec_l1Prime.l0 : Nat → Int → Int → Option (Bool)
  | 0, _, _ => none
  | k + 1, x0, x3 => if (IntKind.u64.wrap (x3 * x3)) ≤ x0 then (if x3 = 0 then (none) else (if (Int.tmod x0 x3) = 0 then (some false) else (spec_l1Prime.l0 k x0 (IntKind.u64.wrap (x3 + 1))))) else (some (decide (x0 > 1)))
def spec_l1Prime.f (k : Nat) (a0 : Int) : Option (Bool) := spec_l1Prime.l0 k a0 2
theorem spec_l1Prime.mono_l : ∀ k, (∀ y0 y1, LeO (spec_l1Prime.l0 k y0 y1) (spec_l1Prime.l0 (k + 1) y0 y1))
  | 0 => fun _ _ r h => by simp [spec_l1Prime.l0] at h
  | k + 1 => by
    have ih0 := spec_l1Prime.mono_l k
    · intro y0 y1
      unfold spec_l1Prime.l0
      repeat' first | (with_reducible first | exact ih0 .. | exact LeO.refl .. | exact LeO.none .. | refine LeO.ite ?_ ?_ | refine LeO.bind ?_ (fun _ => ?_)) | exact ih0 .. | exact LeO.none .. | refine LeO.ite ?_ ?_ | refine LeO.bind ?_ (fun _ => ?_)
theorem spec_l1Prime.mono : ∀ a0 k, LeO (spec_l1Prime.f k a0) (spec_l1Prime.f (k + 1) a0) := by
  intro a0 k
  have ih0 := spec_l1Prime.mono_l k
  unfold spec_l1Prime.f
  repeat' first | (with_reducible first | exact ih0 .. | exact LeO.refl .. | exact LeO.none .. | refine LeO.ite ?_ ?_ | refine LeO.bind ?_ (fun _ => ?_)) | exact ih0 .. | exact LeO.none .. | refine LeO.ite ?_ ?_ | refine LeO.bind ?_ (fun _ => ?_)
set_option maxHeartbeats 8000000 in
set_option maxRecDepth 100000 in
theorem spec_l1Prime.calls (k : Nat) (a0 : Int) (r : Bool) (w : World) (h : spec_l1Prime.f k a0 = some r) :
    Calls Tryd.prog 35 #[.int .u64 a0] w fun e w' => e = .returned (.bool r) ∧ Drawn0 w w' := by
  have H : (spec_l1Prime.l0 k a0 2) = some r := h; clear h; have H' := Aside0.mk H; clear H
  go_enter Tryd.func35, Tryd.ntmps35
  go_wp2
  (try simp only [Act.put, List.setIfInBounds_toArray, List.set_cons_zero, List.set_cons_succ])
  go_loopg [3] k (fun kq v3 w' => ∃ (x3_1 : Int), v3 = .int .u64 x3_1 ∧ Aside0 (spec_l1Prime.l0 kq a0 x3_1 = some r) ∧ Aside0 (kq ≤ k) ∧ Drawn0 w w')
  case atStart => exact ⟨(2), (by first | rfl | (simp; done) | (simp [*]; done)), H', ⟨Nat.le_refl _⟩, by repeat (first | exact Drawn0.refl _ | apply Drawn0.step)⟩
  case round =>
    clear H'; obtain ⟨x3_1, rfl, HA, HK1, ⟨m1, rfl⟩⟩ := hrel
    cases gk with
    | zero => exact absurd HA.out (by simp [spec_l1Prime.l0])
    | succ k1 =>
      have H := HA.out; clear HA
      simp only [spec_l1Prime.l0] at H
      by_cases c2 : (IntKind.u64.wrap (x3_1 * x3_1)) ≤ a0
      · rw [if_pos c2] at H
        have c2b0 : decide ((IntKind.u64.wrap (x3_1 * x3_1)) ≤ a0) = true := decide_eq_true c2; clear c2
        by_cases c3 : x3_1 = 0
        · rw [if_pos c3] at H
          exact absurd H (by simp)
        · rw [if_neg c3] at H
          have c3b0 := beq_eq_false_iff_ne.mpr c3; have c3b1 := bne_iff_ne.mpr c3
          by_cases c4 : (Int.tmod a0 x3_1) = 0
          · rw [if_pos c4] at H
            have c4b0 := beq_iff_eq.mpr c4; have c4b1 := bne_eq_false_iff_eq.mpr c4; clear c4; obtain rfl := Option.some.inj H
            go_wp2
            go_ret
            exact ⟨by first | rfl | (simp; done) | (simp [*]; done), by repeat (first | exact Drawn0.refl _ | apply Drawn0.step)⟩
          · rw [if_neg c4] at H
            have c4b0 := beq_eq_false_iff_ne.mpr c4; have c4b1 := bne_iff_ne.mpr c4; have H' := Aside0.mk H; clear H
            go_wp2
            go_roundg k1
            case measure => have := HK1.out; omega
            case rel => exact ⟨(IntKind.u64.wrap (x3_1 + 1)), (by first | rfl | (simp; done) | (simp [*]; done)), H', ⟨by have := HK1.out; omega⟩, by repeat (first | exact Drawn0.refl _ | apply Drawn0.step)⟩
      · rw [if_neg c2] at H
        have c2b0 : decide ((IntKind.u64.wrap (x3_1 * x3_1)) ≤ a0) = false := decide_eq_false c2; clear c2; obtain rfl := Option.some.inj H
        go_wp2
        go_ret
        exact ⟨by first | rfl | (simp; done) | (simp [*]; done), by repeat (first | exact Drawn0.refl _ | apply Drawn0.step)⟩
end
section
def spec_l1Primes.l0 : Nat → Int → List Int → Int → Option (List Int)
 | 0, _, _, _ => none
 | k + 1, x0, x3, x4 => if (x3.length : Int) < x0 then ((spec_l1Prime.f k x4).bind fun t104 => (if t104 = true then (if x3.length < 17592186044416 then (spec_l1Primes.l0 k x0 (x3 ++ [x4]) (IntKind.u64.wrap (x4 + 1))) else (none)) else (spec_l1Primes.l0 k x0 x3 (IntKind.u64.wrap (x4 + 1))))) else (some x3)
def spec_l1Primes.f (k : Nat) (a0 : Int) : Option (List Int) := spec_l1Primes.l0 k a0 (([] : List Int)) 2
theorem spec_l1Primes.mono_l : ∀ k, (∀ y0 y1 y2, LeO (spec_l1Primes.l0 k y0 y1 y2) (spec_l1Primes.l0 (k + 1) y0 y1 y2))
 | 0 => fun _ _ _ r h => by simp [spec_l1Primes.l0] at h
 | k + 1 => by
  have ih0 := spec_l1Primes.mono_l k
  ·
   intro y0 y1 y2
   unfold spec_l1Primes.l0
   repeat' first | (with_reducible first | exact ih0 .. | exact spec_l1Prime.mono .. | exact LeO.refl .. | exact LeO.none .. | refine LeO.ite ?_ ?_ | refine LeO.bind ?_ (fun _ => ?_)) | exact ih0 .. | exact spec_l1Prime.mono .. | exact LeO.none .. | refine LeO.ite ?_ ?_ | refine LeO.bind ?_ (fun _ => ?_)
theorem spec_l1Primes.mono : ∀ a0 k, LeO (spec_l1Primes.f k a0) (spec_l1Primes.f (k + 1) a0) := by
 intro a0 k
 have ih0 := spec_l1Primes.mono_l k
 unfold spec_l1Primes.f
 repeat' first | (with_reducible first | exact ih0 .. | exact spec_l1Prime.mono .. | exact LeO.refl .. | exact LeO.none .. | refine LeO.ite ?_ ?_ | refine LeO.bind ?_ (fun _ => ?_)) | exact ih0 .. | exact spec_l1Prime.mono .. | exact LeO.none .. | refine LeO.ite ?_ ?_ | refine LeO.bind ?_ (fun _ => ?_)
set_option maxHeartbeats 8000000 in
set_option maxRecDepth 100000 in
theorem spec_l1Primes.calls (k : Nat) (a0 : Int) (r : List Int) (w : World) (h : spec_l1Primes.f k a0 = some r) :
  Calls Tryd.prog 26 #[.int .i64 a0] w fun e w' => ∃ v0_ : Value, e = .returned (v0_) ∧ Kd.R (Kd.int .u64) 40 w' w.heap.size (fun _ => True) v0_ r ∧ Below w.heap.size w w' := by
 have HB := Aside0.mk (Below.refl w.heap.size w); have H : (spec_l1Primes.l0 k a0 (([] : List Int)) 2) = some r := h; clear h; obtain ⟨y101, hy101⟩ : ∃ y_ : List Int, y_ = (([] : List Int)) := ⟨_, rfl⟩
 replace H : (spec_l1Primes.l0 k a0 y101 2) = some r := by first | (rw [hy101]; with_reducible exact H) | (have H2_ := (Option.bind_some _ _).symm.trans H; rw [hy101]; with_reducible exact H2_) | (have H2_ := (Option.bind_some _ _).symm.trans H; with_reducible exact H2_) | with_reducible exact H | (rw [hy101]; exact H) | exact H
 have Ny101 := Aside0.mk hy101; clear hy101; have H' := Aside0.mk H; clear H
 go_enter Tryd.func26, Tryd.ntmps26
 go_wp2_with (first | ((with_reducible refine gd_ 5 rfl ?_); refine Kd.R_lit (Kd.int .u64) _ 40 ?hg (N := 5) ?hd (xs := ([] : List Int)) (inner := []) (ok := fun _ => True) (okp := fun _ => True) ?hr ?hp (fun _ hk => hk) trivial (Below.refl _ _) (Nat.le_refl _) (by simp) ?_; (case hd => rfl); (case hg => rfl); (case hr => first | (go_simp; done) | (go_simp; rfl)); (case hp => exact (Reps.none _ _)); intro b0 w2 ho3 hb hg_ hnew_; clear hg_ hnew_; (first | rw [← Ny101.out] at ho3 | (simp only [Int.reduceToNat] at ho3; rw [← Ny101.out] at ho3)); have a4 := Aside0.mk (Kd.R_lower ho3 (below_size (upH HB.out))); replace HB := Aside0.mk (below_step (upH HB.out) hb); clear hb ho3))
 (try simp only [Act.put, List.setIfInBounds_toArray, List.set_cons_zero, List.set_cons_succ])
 go_loopg [3, 4] k (fun kq v3 v4 w' => ∃ (a2 : List Int) (a1 : Int), v4 = .int .u64 a1 ∧ Aside0 (spec_l1Primes.l0 kq a0 a2 a1 = some r) ∧ Aside0 (kq ≤ k) ∧ Aside0 (Kd.R (Kd.int .u64) 40 w' w.heap.size (fun _ => True) v3 a2) ∧ Aside0 (Below w.heap.size w w'))
 case atStart => exact ⟨(y101), (2), (by first | rfl | (simp; done) | (simp [*]; done)), H', ⟨Nat.le_refl _⟩, ⟨by first | exact a4.out | exact upR a4.out⟩, ⟨upH HB.out⟩⟩
 case round =>
  clear H'; (try clear c2); (try clear p2); obtain ⟨a2, a1, rfl, HA, HK1, a3, HB⟩ := hrel
  cases gk with
  | zero => exact absurd HA.out (by simp [spec_l1Primes.l0])
  | succ k1 =>
   have H := HA.out; clear HA
   simp only [spec_l1Primes.l0] at H
   by_cases c4 : (a2.length : Int) < a0
   ·
    rw [if_pos c4] at H
    have a6 : decide ((a2.length : Int) < a0) = true := decide_eq_true c4; clear c4; obtain ⟨a7, A5, H⟩ := bindA H; (try dsimp only at H)
    by_cases c6 : a7 = true
    ·
     subst c6
     rw [if_pos rfl] at H
     by_cases c7 : a2.length < 17592186044416
     ·
      rw [if_pos c7] at H
      have LMc7 := Aside0.mk c7; clear c7; obtain ⟨y105, hy105⟩ : ∃ y_ : List Int, y_ = (a2 ++ [a1]) := ⟨_, rfl⟩
      replace H : (spec_l1Primes.l0 k1 a0 y105 (IntKind.u64.wrap (a1 + 1))) = some r := by first | (rw [hy105]; with_reducible exact H) | (have H2_ := (Option.bind_some _ _).symm.trans H; rw [hy105]; with_reducible exact H2_) | (have H2_ := (Option.bind_some _ _).symm.trans H; with_reducible exact H2_) | with_reducible exact H | (rw [hy105]; exact H) | exact H
      have Ny105 := Aside0.mk hy105; clear hy105; have H' := Aside0.mk H; clear H; obtain ⟨Ao8, co8, eo8⟩ := Kd.R_slice a3.out; subst eo8
      go_wp2_with (first | ((with_reducible refine gc_ 35 rfl ?_); refine gl_ (some 13) rfl Tryd.func35 #[.int .u64 a1] ?_; (with_reducible refine (spec_l1Prime.calls k1 a1 true _ A5.out).mono ?_); rintro e w' ⟨rfl, ⟨nd, rfl⟩⟩; refine ⟨_, rfl, ?_⟩) | ((with_reducible refine gate_builtin (b := .append) (xs := #[.tmp 14, .tmp 16]) rfl ?_); at_builtin; refine Kd.R_append (Kd.int .u64) (w0 := w) w.heap.size rfl (.tmp 14) (.tmp 16) 38 40 (.int .u64 0) 8 rfl Tryd.underlying38 info40 rfl (by decide) (by omega) (.slice Ao8 a2.length co8) a2 a1 [.int .u64 a1] (fun _ => True) (fun _ => False) rfl rfl ?aP (fun _ hk => hk.elim) ?aF ?aO ?aB ?aS ?aL ?_; (case aP => exact rfl); (case aB => exact (upH HB.out)); (case aF => exact (fun _ _ => trivial)); (case aO => exact (upR a3.out)); (case aS => exact (below_size (upH HB.out))); (case aL => have := LMc7.out; omega); intro b1 w9 ho hb hg hat; rw [← Ny105.out] at ho; replace HB := Aside0.mk (hb); have a5 := Aside0.mk (ho); clear a3; clear ho hb hg hat))
      go_roundg k1
      case measure => have := HK1.out; omega
      case rel => exact ⟨(y105), (IntKind.u64.wrap (a1 + 1)), (by first | rfl | (simp; done) | (simp [*]; done)), H', ⟨by have := HK1.out; omega⟩, ⟨by first | exact a5.out | exact upR a5.out⟩, ⟨upH HB.out⟩⟩
     ·
      rw [if_neg c7] at H
      exact absurd H (by simp)
    ·
     replace c6 := Bool.eq_false_iff.mpr c6
     subst c6
     rw [if_neg (show ¬ (false = true) by decide)] at H
     have H' := Aside0.mk H; clear H; obtain ⟨b2, b3, a8⟩ := Kd.R_slice a3.out; subst a8
     go_wp2_with (first | ((with_reducible refine gc_ 35 rfl ?_); refine gl_ (some 13) rfl Tryd.func35 #[.int .u64 a1] ?_; (with_reducible refine (spec_l1Prime.calls k1 a1 false _ A5.out).mono ?_); rintro e w' ⟨rfl, ⟨nd, rfl⟩⟩; refine ⟨_, rfl, ?_⟩))
     go_roundg k1
     case measure => have := HK1.out; omega
     case rel => exact ⟨(a2), (IntKind.u64.wrap (a1 + 1)), (by first | rfl | (simp; done) | (simp [*]; done)), H', ⟨by have := HK1.out; omega⟩, ⟨by first | exact a3.out | exact upR a3.out⟩, ⟨upH HB.out⟩⟩
   ·
    rw [if_neg c4] at H
    have a6 : decide ((a2.length : Int) < a0) = false := decide_eq_false c4; clear c4; obtain rfl := Option.some.inj H; obtain ⟨b4, b5, a9⟩ := Kd.R_slice a3.out; subst a9
    go_wp2
    go_ret
    exact ⟨_, by first | rfl | (simp [*, errW_none, errW_some] <;> rfl), by first | exact a3.out | exact upR a3.out, upH HB.out⟩
end
section
def spec_l1Word.f (a0 : Int) : Option (Int) := some (Int.tmod a0 4294967296)
set_option maxHeartbeats 8000000 in
set_option maxRecDepth 100000 in
theorem spec_l1Word.calls (a0 : Int) (r : Int) (w : World) (h : spec_l1Word.f a0 = some r) :
    Calls Tryd.prog 31 #[.int .u64 a0] w fun e w' => e = .returned (.int .u64 r) ∧ Drawn0 w w' := by
  have H : (some (Int.tmod a0 4294967296)) = some r := h; clear h; obtain rfl := Option.some.inj H
  go_enter Tryd.func31, Tryd.ntmps31
  go_wp2
  go_ret
  exact ⟨by first | rfl | (simp; done) | (simp [*]; done), by repeat (first | exact Drawn0.refl _ | apply Drawn0.step)⟩
end
section
def spec_l1Square.f (a0 : Int) : Option (Int × Int) := some (IntKind.u64.wrap ((IntKind.u64.wrap ((a0 / 4294967296) * (a0 / 4294967296))) + ((IntKind.u64.wrap ((IntKind.u64.wrap ((IntKind.u64.wrap (2 * (a0 / 4294967296))) * (Int.tmod a0 4294967296))) + ((IntKind.u64.wrap ((Int.tmod a0 4294967296) * (Int.tmod a0 4294967296))) / 4294967296))) / 4294967296)), IntKind.u64.wrap ((IntKind.u64.wrap ((Int.tmod (IntKind.u64.wrap ((IntKind.u64.wrap ((IntKind.u64.wrap (2 * (a0 / 4294967296))) * (Int.tmod a0 4294967296))) + ((IntKind.u64.wrap ((Int.tmod a0 4294967296) * (Int.tmod a0 4294967296))) / 4294967296))) 4294967296) * 4294967296)) + (Int.tmod (IntKind.u64.wrap ((Int.tmod a0 4294967296) * (Int.tmod a0 4294967296))) 4294967296)))
set_option maxHeartbeats 8000000 in
set_option maxRecDepth 100000 in
theorem spec_l1Square.calls (a0 : Int) (r1 : Int) (r2 : Int) (w : World) (h : spec_l1Square.f a0 = some (r1, r2)) :
    Calls Tryd.prog 40 #[.int .u64 a0] w fun e w' => e = .returned (.tuple #[.int .u64 r1, .int .u64 r2]) ∧ Drawn0 w w' := by
  have H : (some (IntKind.u64.wrap ((IntKind.u64.wrap ((a0 / 4294967296) * (a0 / 4294967296))) + ((IntKind.u64.wrap ((IntKind.u64.wrap ((IntKind.u64.wrap (2 * (a0 / 4294967296))) * (Int.tmod a0 4294967296))) + ((IntKind.u64.wrap ((Int.tmod a0 4294967296) * (Int.tmod a0 4294967296))) / 4294967296))) / 4294967296)), IntKind.u64.wrap ((IntKind.u64.wrap ((Int.tmod (IntKind.u64.wrap ((IntKind.u64.wrap ((IntKind.u64.wrap (2 * (a0 / 4294967296))) * (Int.tmod a0 4294967296))) + ((IntKind.u64.wrap ((Int.tmod a0 4294967296) * (Int.tmod a0 4294967296))) / 4294967296))) 4294967296) * 4294967296)) + (Int.tmod (IntKind.u64.wrap ((Int.tmod a0 4294967296) * (Int.tmod a0 4294967296))) 4294967296)))) = some (r1, r2) := h; clear h
  simp only [Option.some.injEq, Prod.mk.injEq] at H
  obtain ⟨rfl, rfl⟩ := H
  go_enter Tryd.func40, Tryd.ntmps40
  go_wp2
  go_ret2
  exact ⟨by first | rfl | (simp; done) | (simp [*]; done), by repeat (first | exact Drawn0.refl _ | apply Drawn0.step)⟩
end
section
def spec_l1Cube.f (a0 : Int) : Option (Int) := (spec_l1Square.f a0).bind fun bt101 => (some (IntKind.u64.wrap ((IntKind.u64.wrap (bt101.1 * (a0 / 4294967296))) + ((IntKind.u64.wrap ((IntKind.u64.wrap ((IntKind.u64.wrap ((IntKind.u64.wrap ((bt101.2 / 4294967296) * (a0 / 4294967296))) + (IntKind.u64.wrap (bt101.1 * (Int.tmod a0 4294967296))))) + ((IntKind.u64.wrap ((IntKind.u64.wrap ((bt101.2 / 4294967296) * (Int.tmod a0 4294967296))) + ((IntKind.u64.wrap ((Int.tmod bt101.2 4294967296) * (Int.tmod a0 4294967296))) / 4294967296))) / 4294967296))) + ((IntKind.u64.wrap ((Int.tmod (IntKind.u64.wrap ((IntKind.u64.wrap ((bt101.2 / 4294967296) * (Int.tmod a0 4294967296))) + ((IntKind.u64.wrap ((Int.tmod bt101.2 4294967296) * (Int.tmod a0 4294967296))) / 4294967296))) 4294967296) + (IntKind.u64.wrap ((Int.tmod bt101.2 4294967296) * (a0 / 4294967296))))) / 4294967296))) / 4294967296))))
set_option maxHeartbeats 8000000 in
set_option maxRecDepth 100000 in
theorem spec_l1Cube.calls (a0 : Int) (r : Int) (w : World) (h : spec_l1Cube.f a0 = some r) :
    Calls Tryd.prog 39 #[.int .u64 a0] w fun e w' => e = .returned (.int .u64 r) ∧ Drawn0 w w' := by
  have H : ((spec_l1Square.f a0).bind fun bt101 => (some (IntKind.u64.wrap ((IntKind.u64.wrap (bt101.1 * (a0 / 4294967296))) + ((IntKind.u64.wrap ((IntKind.u64.wrap ((IntKind.u64.wrap ((IntKind.u64.wrap ((bt101.2 / 4294967296) * (a0 / 4294967296))) + (IntKind.u64.wrap (bt101.1 * (Int.tmod a0 4294967296))))) + ((IntKind.u64.wrap ((IntKind.u64.wrap ((bt101.2 / 4294967296) * (Int.tmod a0 4294967296))) + ((IntKind.u64.wrap ((Int.tmod bt101.2 4294967296) * (Int.tmod a0 4294967296))) / 4294967296))) / 4294967296))) + ((IntKind.u64.wrap ((Int.tmod (IntKind.u64.wrap ((IntKind.u64.wrap ((bt101.2 / 4294967296) * (Int.tmod a0 4294967296))) + ((IntKind.u64.wrap ((Int.tmod bt101.2 4294967296) * (Int.tmod a0 4294967296))) / 4294967296))) 4294967296) + (IntKind.u64.wrap ((Int.tmod bt101.2 4294967296) * (a0 / 4294967296))))) / 4294967296))) / 4294967296))))) = some r := h; clear h; obtain ⟨⟨t101, t102⟩, A2, H⟩ := bindA H; (try dsimp only at H); obtain rfl := Option.some.inj H
  go_enter Tryd.func39, Tryd.ntmps39
  go_wp2_with (first | ((with_reducible refine gc_ 40 rfl ?_); refine gl_ (some 14) rfl Tryd.func40 #[.int .u64 a0] ?_; (with_reducible refine (spec_l1Square.calls a0 t101 t102 _ A2.out).mono ?_); rintro e w' ⟨rfl, ⟨nd, rfl⟩⟩; refine ⟨_, rfl, ?_⟩))
  go_ret
  exact ⟨by first | rfl | (simp; done) | (simp [*]; done), by repeat (first | exact Drawn0.refl _ | apply Drawn0.step)⟩
end
section
def spec_l1Over.f (a0 : Int) (a1 : Int) (a2 : Int) : Option (Bool) := if a1 = 3 then ((spec_l1Cube.f a0).bind fun t101 => (some (decide (t101 ≥ a2)))) else ((spec_l1Square.f a0).bind fun bt102 => (some (decide (bt102.1 ≥ a2))))
set_option maxHeartbeats 8000000 in
set_option maxRecDepth 100000 in
theorem spec_l1Over.calls (a0 : Int) (a1 : Int) (a2 : Int) (r : Bool) (w : World) (h : spec_l1Over.f a0 a1 a2 = some r) :
    Calls Tryd.prog 36 #[.int .u64 a0, .int .i64 a1, .int .u64 a2] w fun e w' => e = .returned (.bool r) ∧ Drawn0 w w' := by
  have H : (if a1 = 3 then ((spec_l1Cube.f a0).bind fun t101 => (some (decide (t101 ≥ a2)))) else ((spec_l1Square.f a0).bind fun bt102 => (some (decide (bt102.1 ≥ a2))))) = some r := h; clear h
  by_cases c4 : a1 = 3
  · rw [if_pos c4] at H
    have c4b0 := beq_iff_eq.mpr c4; have c4b1 := bne_eq_false_iff_eq.mpr c4; clear c4; obtain ⟨t101, A5, H⟩ := bindA H; (try dsimp only at H); obtain rfl := Option.some.inj H
    go_enter Tryd.func36, Tryd.ntmps36
    go_wp2_with (first | ((with_reducible refine gc_ 39 rfl ?_); refine gl_ (some 12) rfl Tryd.func39 #[.int .u64 a0] ?_; (with_reducible refine (spec_l1Cube.calls a0 t101 _ A5.out).mono ?_); rintro e w' ⟨rfl, ⟨nd, rfl⟩⟩; refine ⟨_, rfl, ?_⟩))
    go_ret
    exact ⟨by first | rfl | (simp; done) | (simp [*]; done), by repeat (first | exact Drawn0.refl _ | apply Drawn0.step)⟩
  · rw [if_neg c4] at H
    have c4b0 := beq_eq_false_iff_ne.mpr c4; have c4b1 := bne_iff_ne.mpr c4; obtain ⟨⟨t102, t103⟩, A6, H⟩ := bindA H; (try dsimp only at H); obtain rfl := Option.some.inj H
    go_enter Tryd.func36, Tryd.ntmps36
    go_wp2_with (first | ((with_reducible refine gc_ 40 rfl ?_); refine gl_ (some 17) rfl Tryd.func40 #[.int .u64 a0] ?_; (with_reducible refine (spec_l1Square.calls a0 t102 t103 _ A6.out).mono ?_); rintro e w' ⟨rfl, ⟨nd, rfl⟩⟩; refine ⟨_, rfl, ?_⟩))
    go_ret
    exact ⟨by first | rfl | (simp; done) | (simp [*]; done), by repeat (first | exact Drawn0.refl _ | apply Drawn0.step)⟩
end
section
def spec_l1Root.l0 : Nat → Int → Int → Int → Int → Option (Int)
 | 0, _, _, _, _ => none
 | k + 1, x0, x1, x5, x6 => if x6 ≥ 0 then (if 0 ≤ x6 then (if ((IntKind.u64.wrap (x5 + (shl .u64 1 x6))) / 4294967296) ≤ 20 then ((spec_l1Over.f (IntKind.u64.wrap (x5 + (shl .u64 1 x6))) x1 x0).bind fun t101 => (if t101 = true then (spec_l1Root.l0 k x0 x1 x5 (wrap64 (x6 - 1))) else (spec_l1Root.l0 k x0 x1 (IntKind.u64.wrap (x5 + (shl .u64 1 x6))) (wrap64 (x6 - 1))))) else (spec_l1Root.l0 k x0 x1 x5 (wrap64 (x6 - 1)))) else (none)) else ((spec_l1Word.f x5).bind fun t102 => (some t102))
def spec_l1Root.f (k : Nat) (a0 : Int) (a1 : Int) : Option (Int) := spec_l1Root.l0 k a0 a1 0 37
theorem spec_l1Root.mono_l : ∀ k, (∀ y0 y1 y2 y3, LeO (spec_l1Root.l0 k y0 y1 y2 y3) (spec_l1Root.l0 (k + 1) y0 y1 y2 y3))
 | 0 => fun _ _ _ _ r h => by simp [spec_l1Root.l0] at h
 | k + 1 => by
  have ih0 := spec_l1Root.mono_l k
  ·
   intro y0 y1 y2 y3
   unfold spec_l1Root.l0
   repeat' first | (with_reducible first | exact ih0 .. | exact LeO.refl .. | exact LeO.none .. | refine LeO.ite ?_ ?_ | refine LeO.bind ?_ (fun _ => ?_)) | exact ih0 .. | exact LeO.none .. | refine LeO.ite ?_ ?_ | refine LeO.bind ?_ (fun _ => ?_)
theorem spec_l1Root.mono : ∀ a0 a1 k, LeO (spec_l1Root.f k a0 a1) (spec_l1Root.f (k + 1) a0 a1) := by
 intro a0 a1 k
 have ih0 := spec_l1Root.mono_l k
 unfold spec_l1Root.f
 repeat' first | (with_reducible first | exact ih0 .. | exact LeO.refl .. | exact LeO.none .. | refine LeO.ite ?_ ?_ | refine LeO.bind ?_ (fun _ => ?_)) | exact ih0 .. | exact LeO.none .. | refine LeO.ite ?_ ?_ | refine LeO.bind ?_ (fun _ => ?_)
set_option maxHeartbeats 8000000 in
set_option maxRecDepth 100000 in
theorem spec_l1Root.calls (k : Nat) (a0 : Int) (a1 : Int) (r : Int) (w : World) (h : spec_l1Root.f k a0 a1 = some r) :
  Calls Tryd.prog 27 #[.int .u64 a0, .int .i64 a1] w fun e w' => e = .returned (.int .u64 r) ∧ Drawn0 w w' := by
 have H : (spec_l1Root.l0 k a0 a1 0 37) = some r := h; clear h; have H' := Aside0.mk H; clear H
 go_enter Tryd.func27, Tryd.ntmps27
 go_wp2
 (try simp only [Act.put, List.setIfInBounds_toArray, List.set_cons_zero, List.set_cons_succ])
 go_loopg [5, 6] k (fun kq v5 v6 w' => ∃ (a3 : Int) (a2 : Int), v5 = .int .u64 a3 ∧ v6 = .int .i64 a2 ∧ Aside0 (spec_l1Root.l0 kq a0 a1 a3 a2 = some r) ∧ Aside0 (kq ≤ k) ∧ Drawn0 w w')
 case atStart => exact ⟨(0), (37), (by first | rfl | (simp; done) | (simp [*]; done)), (by first | rfl | (simp; done) | (simp [*]; done)), H', ⟨Nat.le_refl _⟩, by repeat (first | exact Drawn0.refl _ | apply Drawn0.step)⟩
 case round =>
  clear H'; (try clear c2); (try clear p2); obtain ⟨a3, a2, rfl, rfl, HA, HK1, ⟨m1, rfl⟩⟩ := hrel
  cases gk with
  | zero => exact absurd HA.out (by simp [spec_l1Root.l0])
  | succ k1 =>
   have H := HA.out; clear HA
   simp only [spec_l1Root.l0] at H
   by_cases c3 : a2 ≥ 0
   ·
    rw [if_pos c3] at H
    have a5 : decide (0 ≤ a2) = true := decide_eq_true c3; clear c3
    by_cases c4 : 0 ≤ a2
    ·
     rw [if_pos c4] at H
     have a8 := eq_true c4; replace c4 := decide_eq_true c4; obtain ⟨ji5, hji5⟩ : ∃ j_ : Int, (shl .u64 1 a2) = j_ := ⟨_, rfl⟩
     replace H : (if ((IntKind.u64.wrap (a3 + (ji5))) / 4294967296) ≤ 20 then ((spec_l1Over.f (IntKind.u64.wrap (a3 + (ji5))) a1 a0).bind fun a4 => (if a4 = true then (spec_l1Root.l0 k1 a0 a1 a3 (wrap64 (a2 - 1))) else (spec_l1Root.l0 k1 a0 a1 (IntKind.u64.wrap (a3 + (ji5))) (wrap64 (a2 - 1))))) else (spec_l1Root.l0 k1 a0 a1 a3 (wrap64 (a2 - 1)))) = some r := by first | (rw [hji5] at H; exact H) | (simp only [hji5] at H ⊢; exact H)
     have hji5_ : (IntKind.u64.wrap (1 * 2 ^ min a2.toNat 64)) = ji5 := hji5; have hji5z : a2 ≤ 64 → (IntKind.u64.wrap (1 * 2 ^ a2.toNat)) = ji5 := shl_small hji5; have hji5u : (IntKind.u64.wrap (2 ^ min a2.toNat 64)) = ji5 := (by have h_ := hji5_; rw [Int.one_mul] at h_; exact h_); have hji5v : a2 ≤ 64 → (IntKind.u64.wrap (2 ^ a2.toNat)) = ji5 := fun hle_ => by have h_ := hji5z hle_; rw [Int.one_mul] at h_; exact h_
     by_cases c6 : ((IntKind.u64.wrap (a3 + (ji5))) / 4294967296) ≤ 20
     ·
      rw [if_pos c6] at H
      have a6 : decide (((IntKind.u64.wrap (a3 + (ji5))) / 4294967296) ≤ 20) = true := decide_eq_true c6; clear c6; obtain ⟨a4, A7, H⟩ := bindA H; (try dsimp only at H)
      by_cases c8 : a4 = true
      ·
       subst c8
       rw [if_pos rfl] at H
       have H' := Aside0.mk H; clear H
       go_wp2_with (first | (go_at_call 36; (with_reducible refine (spec_l1Over.calls (IntKind.u64.wrap (a3 + (ji5))) a1 a0 true _ A7.out).mono ?_); rintro e w' ⟨rfl, ⟨nd, rfl⟩⟩))
       go_roundg k1
       case measure => have := HK1.out; omega
       case rel => exact ⟨(a3), (wrap64 (a2 - 1)), (by first | rfl | (simp; done) | (simp [*]; done)), (by first | rfl | (simp; done) | (simp [*]; done)), H', ⟨by have := HK1.out; omega⟩, by repeat (first | exact Drawn0.refl _ | apply Drawn0.step)⟩
      ·
       replace c8 := Bool.eq_false_iff.mpr c8
       subst c8
       rw [if_neg (show ¬ (false = true) by decide)] at H
       have H' := Aside0.mk H; clear H
       go_wp2_with (first | (go_at_call 36; (with_reducible refine (spec_l1Over.calls (IntKind.u64.wrap (a3 + (ji5))) a1 a0 false _ A7.out).mono ?_); rintro e w' ⟨rfl, ⟨nd, rfl⟩⟩))
       go_roundg k1
       case measure => have := HK1.out; omega
       case rel => exact ⟨(IntKind.u64.wrap (a3 + (ji5))), (wrap64 (a2 - 1)), (by first | rfl | (simp; done) | (simp only [← hji5] <;> (first | rfl | simp)) | (simp [*]; done)), (by first | rfl | (simp; done) | (simp [*]; done)), H', ⟨by have := HK1.out; omega⟩, by repeat (first | exact Drawn0.refl _ | apply Drawn0.step)⟩
     ·
      rw [if_neg c6] at H
      have a6 : decide (((IntKind.u64.wrap (a3 + (ji5))) / 4294967296) ≤ 20) = false := decide_eq_false c6; clear c6; have H' := Aside0.mk H; clear H
      go_wp2
      go_roundg k1
      case measure => have := HK1.out; omega
      case rel => exact ⟨(a3), (wrap64 (a2 - 1)), (by first | rfl | (simp; done) | (simp [*]; done)), (by first | rfl | (simp; done) | (simp [*]; done)), H', ⟨by have := HK1.out; omega⟩, by repeat (first | exact Drawn0.refl _ | apply Drawn0.step)⟩
    ·
     rw [if_neg c4] at H
     exact absurd H (by simp)
   ·
    rw [if_neg c3] at H
    have a5 : decide (0 ≤ a2) = false := decide_eq_false c3; clear c3; obtain ⟨a7, A9, H⟩ := bindA H; (try dsimp only at H); obtain rfl := Option.some.inj H
    go_wp2_with (first | ((with_reducible refine gc_ 31 rfl ?_); refine gl_ (some 28) rfl Tryd.func31 #[.int .u64 a3] ?_; (with_reducible refine (spec_l1Word.calls a3 a7 _ A9.out).mono ?_); rintro e w' ⟨rfl, ⟨nd, rfl⟩⟩; refine ⟨_, rfl, ?_⟩))
    go_ret
    exact ⟨by first | rfl | (simp; done) | (simp [*]; done), by repeat (first | exact Drawn0.refl _ | apply Drawn0.step)⟩
end
section
open Go.Proofs.YtfinaphomgdmlaaDoorW.PrintWords.Aside0 renaming mk → yaa

mutual
def spec_l1Whole.l0 : Nat → List Int → List Int → Option (List Int)
 | 0, _, _ => none
 | k + 1, x0, x3 => if ((x3.length : Int) % 64) = 56 then (spec_l1Whole.l1 k x3 (IntKind.u64.wrap (wrap64 (8 * (x0.length : Int)))) 7) else (if x3.length < 140737488355328 then (spec_l1Whole.l0 k x0 (x3 ++ [0])) else (none))
def spec_l1Whole.l1 : Nat → List Int → Int → Int → Option (List Int)
 | 0, _, _, _ => none
 | k + 1, x3, x4, x5 => if x5 ≥ 0 then (if 0 ≤ (wrap64 (8 * x5)) then (if x3.length < 140737488355328 then (spec_l1Whole.l1 k (x3 ++ [(shr .u64 x4 (wrap64 (8 * x5))) % 256]) x4 (wrap64 (x5 - 1))) else (none)) else (none)) else (some x3)
end
def spec_l1Whole.f (k : Nat) (l0 : List Int) : Option (List Int) := (some (([] : List Int) : List Int)).bind fun y101 => (if y101.length + l0.length < 140737488355328 then ((some (y101 ++ l0 : List Int)).bind fun y104 => (if y104.length < 140737488355328 then (spec_l1Whole.l0 k l0 (y104 ++ [128])) else (none))) else (none))
theorem spec_l1Whole.mono_l : ∀ k, (∀ y0 y1, LeO (spec_l1Whole.l0 k y0 y1) (spec_l1Whole.l0 (k + 1) y0 y1)) ∧ (∀ y0 y1 y2, LeO (spec_l1Whole.l1 k y0 y1 y2) (spec_l1Whole.l1 (k + 1) y0 y1 y2))
 | 0 => ⟨fun _ _ r h => by simp [spec_l1Whole.l0] at h, fun _ _ _ r h => by simp [spec_l1Whole.l1] at h⟩
 | k + 1 => by
  obtain ⟨ih0, ih1⟩ := spec_l1Whole.mono_l k
  refine ⟨?_, ?_⟩
  ·
   intro y0 y1
   unfold spec_l1Whole.l0
   repeat' first | (with_reducible first | exact ih0 .. | exact ih1 .. | exact LeO.refl .. | exact LeO.none .. | refine LeO.ite ?_ ?_ | refine LeO.bind ?_ (fun _ => ?_)) | exact ih0 .. | exact ih1 .. | exact LeO.none .. | refine LeO.ite ?_ ?_ | refine LeO.bind ?_ (fun _ => ?_)
  ·
   intro y0 y1 y2
   unfold spec_l1Whole.l1
   repeat' first | (with_reducible first | exact ih0 .. | exact ih1 .. | exact LeO.refl .. | exact LeO.none .. | refine LeO.ite ?_ ?_ | refine LeO.bind ?_ (fun _ => ?_)) | exact ih0 .. | exact ih1 .. | exact LeO.none .. | refine LeO.ite ?_ ?_ | refine LeO.bind ?_ (fun _ => ?_)
theorem spec_l1Whole.mono : ∀ a0 k, LeO (spec_l1Whole.f k a0) (spec_l1Whole.f (k + 1) a0) := by
 intro a0 k
 obtain ⟨ih0, ih1⟩ := spec_l1Whole.mono_l k
 unfold spec_l1Whole.f
 repeat' first | (with_reducible first | exact ih0 .. | exact ih1 .. | exact LeO.refl .. | exact LeO.none .. | refine LeO.ite ?_ ?_ | refine LeO.bind ?_ (fun _ => ?_)) | exact ih0 .. | exact ih1 .. | exact LeO.none .. | refine LeO.ite ?_ ?_ | refine LeO.bind ?_ (fun _ => ?_)
set_option maxHeartbeats 8000000 in
set_option maxRecDepth 100000 in
theorem spec_l1Whole.calls (k : Nat) (A0 : Option Addr) (c0 : Nat) (l0 : List Int) (r : List Int) (w : World) (hr0 : Kd.C (Kd.int .u8) w A0 l0.length l0) (hc0 : l0.length ≤ c0) (h : spec_l1Whole.f k l0 = some r) :
  Calls Tryd.prog 28 #[.slice A0 l0.length c0] w fun e w' => ∃ v0_ : Value, e = .returned (v0_) ∧ Kd.R (Kd.int .u8) 5 w' w.heap.size (fun _ => True) v0_ r ∧ Below w.heap.size w w' := by
 have HR0 := yaa hr0; have HC0 := yaa hc0; clear hr0 hc0; have HB := yaa (Below.refl w.heap.size w); have H : ((some (([] : List Int) : List Int)).bind fun y101 => (if y101.length + l0.length < 140737488355328 then ((some (y101 ++ l0 : List Int)).bind fun y104 => (if y104.length < 140737488355328 then (spec_l1Whole.l0 k l0 (y104 ++ [128])) else (none))) else (none))) = some r := h; clear h; obtain ⟨y101, hy101, H⟩ := bindY H; (try dsimp only at H); have Ny101 := yaa hy101; clear hy101
 by_cases c2 : y101.length + l0.length < 140737488355328
 ·
  rw [if_pos c2] at H
  have LMc2 := yaa c2; clear c2; obtain ⟨y104, hy104⟩ : ∃ y_ : List Int, y_ = (y101 ++ l0) := ⟨_, rfl⟩
  replace H : (if y104.length < 140737488355328 then (spec_l1Whole.l0 k l0 (y104 ++ [128])) else (none)) = some r := by first | (rw [hy104]; with_reducible exact H) | (have H2_ := (Option.bind_some _ _).symm.trans H; rw [hy104]; with_reducible exact H2_) | (have H2_ := (Option.bind_some _ _).symm.trans H; with_reducible exact H2_) | with_reducible exact H | (rw [hy104]; exact H) | exact H
  have Ny104 := yaa hy104; clear hy104
  by_cases c3 : y104.length < 140737488355328
  ·
   rw [if_pos c3] at H
   have LMc3 := yaa c3; clear c3; obtain ⟨y107, hy107⟩ : ∃ y_ : List Int, y_ = (y104 ++ [128]) := ⟨_, rfl⟩
   replace H : (spec_l1Whole.l0 k l0 y107) = some r := by first | (rw [hy107]; with_reducible exact H) | (have H2_ := (Option.bind_some _ _).symm.trans H; rw [hy107]; with_reducible exact H2_) | (have H2_ := (Option.bind_some _ _).symm.trans H; with_reducible exact H2_) | with_reducible exact H | (rw [hy107]; exact H) | exact H
   have Ny107 := yaa hy107; clear hy107; have H' := yaa H; clear H
   go_enter Tryd.func28, Tryd.ntmps28
   go_wp2_with (first | ((with_reducible refine gd_ 6 rfl ?_); refine Kd.R_lit (Kd.int .u8) _ 5 ?hg (N := 6) ?hd (xs := ([] : List Int)) (inner := []) (ok := fun _ => True) (okp := fun _ => True) ?hr ?hp (fun _ hk => hk) trivial (Below.refl _ _) (Nat.le_refl _) (by simp) ?_; (case hd => rfl); (case hg => rfl); (case hr => first | (go_simp; done) | (go_simp; rfl)); (case hp => exact (Reps.none _ _)); intro b3 w4 ho5 hb hg_ hnew_; clear hg_ hnew_; (first | rw [← Ny101.out] at ho5 | (simp only [Int.reduceToNat] at ho5; rw [← Ny101.out] at ho5)); have a5 := yaa (Kd.R_lower ho5 (below_size (upH HB.out))); replace HB := yaa (below_step (upH HB.out) hb); clear hb ho5) | ((with_reducible refine gate_builtin (b := .append) (xs := #[.tmp 6, .tmp 7]) rfl ?_); at_builtin; refine Kd.R_append_rows (Kd.int .u8) (w0 := w) w.heap.size rfl (.tmp 6) (.tmp 7) 22 5 (.int .u8 0) 1 rfl Tryd.underlying22 info5 rfl (by decide) (by omega) b3 y101 l0 _ _ _ (fun _ => True) (fun _ => False) rfl rfl ?aO ?aR (fun _ _ h => h) (fun _ h => h.elim) ?aF ?aB ?aS ?aL ?_; (case aR => repeat (first | exact (Kd.C_below HR0.out HB.out) | (with_reducible refine Kd.C_alloc ?_ _) | (with_reducible refine Kd.C_drewN ?_ _) | (with_reducible refine Kd.C_drew ?_))); (case aB => exact (upH HB.out)); (case aF => exact (fun _ _ => trivial)); (case aO => exact (upR a5.out)); (case aS => exact (below_size (upH HB.out))); (case aL => have := LMc2.out; omega); intro b4 w6 ho hb hg hat; rw [← Ny104.out] at ho; replace HB := yaa (hb); have a6 := yaa (ho); clear a5; clear ho hb hg hat) | ((with_reducible refine gate_builtin (b := .append) (xs := #[.tmp 8, .tmp 9]) rfl ?_); at_builtin; refine Kd.R_append (Kd.int .u8) (w0 := w) w.heap.size rfl (.tmp 8) (.tmp 9) 22 5 (.int .u8 0) 1 rfl Tryd.underlying22 info5 rfl (by decide) (by omega) b4 y104 128 [.int .u8 128] (fun _ => True) (fun _ => False) rfl rfl ?aP (fun _ hk => hk.elim) ?aF ?aO ?aB ?aS ?aL ?_; (case aP => exact rfl); (case aB => exact (upH HB.out)); (case aF => exact (fun _ _ => trivial)); (case aO => exact (upR a6.out)); (case aS => exact (below_size (upH HB.out))); (case aL => have := LMc3.out; omega); intro b9 w7 ho hb hg hat; rw [← Ny107.out] at ho; replace HB := yaa (hb); have a7 := yaa (ho); clear a6; clear ho hb hg hat))
   (try simp only [Act.put, List.setIfInBounds_toArray, List.set_cons_zero, List.set_cons_succ])
   go_loopg [3] k (fun kq v3 w' => ∃ (a4 : List Int), Aside0 (spec_l1Whole.l0 kq l0 a4 = some r) ∧ Aside0 (kq ≤ k) ∧ Aside0 (Kd.R (Kd.int .u8) 5 w' w.heap.size (fun _ => True) v3 a4) ∧ Aside0 (Below w.heap.size w w'))
   case atStart => exact ⟨(y107), H', ⟨Nat.le_refl _⟩, ⟨by first | exact a7.out | exact upR a7.out⟩, ⟨upH HB.out⟩⟩
   case round =>
    clear H'; (try clear c2); (try clear p2); (try clear c3); obtain ⟨a4, HA, HK1, a2, HB⟩ := hrel
    cases gk with
    | zero => exact absurd HA.out (by simp [spec_l1Whole.l0])
    | succ k1 =>
     have H := HA.out; clear HA
     simp only [spec_l1Whole.l0] at H
     by_cases c8 : ((a4.length : Int) % 64) = 56
     ·
      rw [if_pos c8] at H
      have b0 := beq_iff_eq.mpr c8; have b1 := bne_eq_false_iff_eq.mpr c8; clear c8; have H' := yaa H; clear H; obtain ⟨Ao9, co9, eo9⟩ := Kd.R_slice a2.out; subst eo9
      go_wp2
      (try simp only [Act.put, List.setIfInBounds_toArray, List.set_cons_zero, List.set_cons_succ])
      go_loopg [3, 5] k1 (fun kq v3 v5 w' => ∃ (a3 : List Int) (a1 : Int), v5 = .int .i64 a1 ∧ Aside0 (spec_l1Whole.l1 kq a3 (IntKind.u64.wrap (wrap64 (8 * (l0.length : Int)))) a1 = some r) ∧ Aside0 (kq ≤ k1) ∧ Aside0 (Kd.R (Kd.int .u8) 5 w' w.heap.size (fun _ => True) v3 a3) ∧ Aside0 (Below w.heap.size w w'))
      case atStart => exact ⟨(a4), (7), (by first | rfl | (simp; done) | (simp [*]; done)), H', ⟨Nat.le_refl _⟩, ⟨by first | exact a2.out | exact upR a2.out⟩, ⟨upH HB.out⟩⟩
      case round =>
       clear H'; (try clear c2); (try clear p2); (try clear c3); (try clear p6); (try clear c8); (try clear b0); (try clear b1); (try clear p2); obtain ⟨a3, a1, rfl, HA, HK2, a2, HB⟩ := hrel
       cases gk with
       | zero => exact absurd HA.out (by simp [spec_l1Whole.l1])
       | succ k2 =>
        have H := HA.out; clear HA
        simp only [spec_l1Whole.l1] at H
        by_cases c10 : a1 ≥ 0
        ·
         rw [if_pos c10] at H
         have b2 : decide (0 ≤ a1) = true := decide_eq_true c10; clear c10; obtain ⟨ji11, hji11⟩ : ∃ j_ : Int, (wrap64 (8 * a1)) = j_ := ⟨_, rfl⟩
         replace H : (if 0 ≤ (ji11) then (if a3.length < 140737488355328 then (spec_l1Whole.l1 k2 (a3 ++ [(shr .u64 (IntKind.u64.wrap (wrap64 (8 * (l0.length : Int)))) (ji11)) % 256]) (IntKind.u64.wrap (wrap64 (8 * (l0.length : Int)))) (wrap64 (a1 - 1))) else (none)) else (none)) = some r := by first | (rw [hji11] at H; exact H) | (simp only [hji11] at H ⊢; exact H)
         have hji11w : (IntKind.i64.wrap (8 * a1)) = ji11 := (i64_w _).trans hji11
         by_cases c12 : 0 ≤ (ji11)
         ·
          rw [if_pos c12] at H
          have b8 := eq_true c12; replace c12 := decide_eq_true c12; obtain ⟨ji13, hji13⟩ : ∃ j_ : Int, (shr .u64 (IntKind.u64.wrap (wrap64 (8 * (l0.length : Int)))) (ji11)) = j_ := ⟨_, rfl⟩
          replace H : (if a3.length < 140737488355328 then (spec_l1Whole.l1 k2 (a3 ++ [(ji13) % 256]) (IntKind.u64.wrap (wrap64 (8 * (l0.length : Int)))) (wrap64 (a1 - 1))) else (none)) = some r := by first | (rw [hji13] at H; exact H) | (simp only [hji13] at H ⊢; exact H)
          have hji13_ : ((IntKind.u64.wrap (wrap64 (8 * (l0.length : Int)))) / 2 ^ min (ji11).toNat 64) = ji13 := hji13; have hji13z : (ji11) ≤ 64 → ((IntKind.u64.wrap (wrap64 (8 * (l0.length : Int)))) / 2 ^ (ji11).toNat) = ji13 := shr_small hji13
          by_cases c14 : a3.length < 140737488355328
          ·
           rw [if_pos c14] at H
           have LMc14 := yaa c14; clear c14; obtain ⟨y113, hy113⟩ : ∃ y_ : List Int, y_ = (a3 ++ [(ji13) % 256]) := ⟨_, rfl⟩
           replace H : (spec_l1Whole.l1 k2 y113 (IntKind.u64.wrap (wrap64 (8 * (l0.length : Int)))) (wrap64 (a1 - 1))) = some r := by first | (rw [hy113]; with_reducible exact H) | (have H2_ := (Option.bind_some _ _).symm.trans H; rw [hy113]; with_reducible exact H2_) | (have H2_ := (Option.bind_some _ _).symm.trans H; with_reducible exact H2_) | with_reducible exact H | (rw [hy113]; exact H) | exact H
           have Ny113 := yaa hy113; clear hy113; have H' := yaa H; clear H
           go_wp2_with (first | ((with_reducible refine gate_builtin (b := .append) (xs := #[.tmp 26, .tmp 32]) rfl ?_); at_builtin; refine Kd.R_append (Kd.int .u8) (w0 := w) w.heap.size rfl (.tmp 26) (.tmp 32) 22 5 (.int .u8 0) 1 rfl Tryd.underlying22 info5 rfl (by decide) (by omega) u3 a3 ((ji13) % 256) [.int .u8 ((ji13) % 256)] (fun _ => True) (fun _ => False) rfl rfl ?aP (fun _ hk => hk.elim) ?aF ?aO ?aB ?aS ?aL ?_; (case aP => exact rfl); (case aB => exact (upH HB.out)); (case aF => exact (fun _ _ => trivial)); (case aO => exact (upR a2.out)); (case aS => exact (below_size (upH HB.out))); (case aL => have := LMc14.out; omega); intro c1 w15 ho hb hg hat; rw [← Ny113.out] at ho; replace HB := yaa (hb); have a8 := yaa (ho); clear a2; clear ho hb hg hat))
           go_roundg k2
           case measure => have := HK1.out; have := HK2.out; omega
           case rel => exact ⟨(y113), (wrap64 (a1 - 1)), (by first | rfl | (simp; done) | (simp [*]; done)), H', ⟨by have := HK1.out; have := HK2.out; omega⟩, ⟨by first | exact a8.out | exact upR a8.out⟩, ⟨upH HB.out⟩⟩
          ·
           rw [if_neg c14] at H
           exact absurd H (by simp)
         ·
          rw [if_neg c12] at H
          exact absurd H (by simp)
        ·
         rw [if_neg c10] at H
         have b2 : decide (0 ≤ a1) = false := decide_eq_false c10; clear c10; obtain rfl := Option.some.inj H
         go_wp2
         go_ret
         exact ⟨_, by first | rfl | (simp [*, errW_none, errW_some] <;> rfl), by first | exact a2.out | exact upR a2.out, upH HB.out⟩
     ·
      rw [if_neg c8] at H
      have b0 := beq_eq_false_iff_ne.mpr c8; have b1 := bne_iff_ne.mpr c8
      by_cases c16 : a4.length < 140737488355328
      ·
       rw [if_pos c16] at H
       have LMc16 := yaa c16; clear c16; obtain ⟨y110, hy110⟩ : ∃ y_ : List Int, y_ = (a4 ++ [0]) := ⟨_, rfl⟩
       replace H : (spec_l1Whole.l0 k1 l0 y110) = some r := by first | (rw [hy110]; with_reducible exact H) | (have H2_ := (Option.bind_some _ _).symm.trans H; rw [hy110]; with_reducible exact H2_) | (have H2_ := (Option.bind_some _ _).symm.trans H; with_reducible exact H2_) | with_reducible exact H | (rw [hy110]; exact H) | exact H
       have Ny110 := yaa hy110; clear hy110; have H' := yaa H; clear H; obtain ⟨b5, b6, b7⟩ := Kd.R_slice a2.out; subst b7
       go_wp2_with (first | ((with_reducible refine gate_builtin (b := .append) (xs := #[.tmp 15, .tmp 16]) rfl ?_); at_builtin; refine Kd.R_append (Kd.int .u8) (w0 := w) w.heap.size rfl (.tmp 15) (.tmp 16) 22 5 (.int .u8 0) 1 rfl Tryd.underlying22 info5 rfl (by decide) (by omega) (.slice b5 a4.length b6) a4 0 [.int .u8 0] (fun _ => True) (fun _ => False) rfl rfl ?aP (fun _ hk => hk.elim) ?aF ?aO ?aB ?aS ?aL ?_; (case aP => exact rfl); (case aB => exact (upH HB.out)); (case aF => exact (fun _ _ => trivial)); (case aO => exact (upR a2.out)); (case aS => exact (below_size (upH HB.out))); (case aL => have := LMc16.out; omega); intro c4 w18 ho hb hg hat; rw [← Ny110.out] at ho; replace HB := yaa (hb); have a9 := yaa (ho); clear a2; clear ho hb hg hat))
       go_roundg k1
       case measure => have := HK1.out; omega
       case rel => exact ⟨(y110), H', ⟨by have := HK1.out; omega⟩, ⟨by first | exact a9.out | exact upR a9.out⟩, ⟨upH HB.out⟩⟩
      ·
       rw [if_neg c16] at H
       exact absurd H (by simp)
  ·
   rw [if_neg c3] at H
   exact absurd H (by simp)
 ·
  rw [if_neg c2] at H
  exact absurd H (by simp)
end
section
def spec_l1Turn.f (a0 : Int) (a1 : Int) : Option (Int) := if 0 ≤ a1 then (if 0 ≤ (IntKind.u64.wrap (32 - a1)) then ((spec_l1Word.f (Go.bits .or .u64 (shr .u64 a0 a1) (shl .u64 a0 (IntKind.u64.wrap (32 - a1))))).bind fun t101 => (some t101)) else (none)) else (none)
set_option maxHeartbeats 8000000 in
set_option maxRecDepth 100000 in
theorem spec_l1Turn.calls (a0 : Int) (a1 : Int) (r : Int) (w : World) (h : spec_l1Turn.f a0 a1 = some r) :
    Calls Tryd.prog 37 #[.int .u64 a0, .int .u64 a1] w fun e w' => e = .returned (.int .u64 r) ∧ Drawn0 w w' := by
  have H : (if 0 ≤ a1 then (if 0 ≤ (IntKind.u64.wrap (32 - a1)) then ((spec_l1Word.f (Go.bits .or .u64 (shr .u64 a0 a1) (shl .u64 a0 (IntKind.u64.wrap (32 - a1))))).bind fun t101 => (some t101)) else (none)) else (none)) = some r := h; clear h
  by_cases c3 : 0 ≤ a1
  · rw [if_pos c3] at H
    have c3b0 := eq_true c3; replace c3 := decide_eq_true c3; obtain ⟨ji4, hji4⟩ : ∃ j_ : Int, (shr .u64 a0 a1) = j_ := ⟨_, rfl⟩
    replace H : (if 0 ≤ (IntKind.u64.wrap (32 - a1)) then ((spec_l1Word.f (Go.bits .or .u64 (ji4) (shl .u64 a0 (IntKind.u64.wrap (32 - a1))))).bind fun t101 => (some t101)) else (none)) = some r := by first | (rw [hji4] at H; exact H) | (simp only [hji4] at H ⊢; exact H)
    have hji4_ : (a0 / 2 ^ min a1.toNat 64) = ji4 := hji4; have hji4z : a1 ≤ 64 → (a0 / 2 ^ a1.toNat) = ji4 := shr_small hji4; obtain ⟨ji5, hji5⟩ : ∃ j_ : Int, (IntKind.u64.wrap (32 - a1)) = j_ := ⟨_, rfl⟩
    replace H : (if 0 ≤ (ji5) then ((spec_l1Word.f (Go.bits .or .u64 (ji4) (shl .u64 a0 (ji5)))).bind fun t101 => (some t101)) else (none)) = some r := by first | (rw [hji5] at H; exact H) | (simp only [hji5] at H ⊢; exact H)
    by_cases c6 : 0 ≤ (ji5)
    · rw [if_pos c6] at H
      have c6b0 := eq_true c6; replace c6 := decide_eq_true c6; obtain ⟨ji7, hji7⟩ : ∃ j_ : Int, (shl .u64 a0 (ji5)) = j_ := ⟨_, rfl⟩
      replace H : ((spec_l1Word.f (Go.bits .or .u64 (ji4) (ji7))).bind fun t101 => (some t101)) = some r := by first | (rw [hji7] at H; exact H) | (simp only [hji7] at H ⊢; exact H)
      have hji7_ : (IntKind.u64.wrap (a0 * 2 ^ min (ji5).toNat 64)) = ji7 := hji7; have hji7z : (ji5) ≤ 64 → (IntKind.u64.wrap (a0 * 2 ^ (ji5).toNat)) = ji7 := shl_small hji7; obtain ⟨t101, A8, H⟩ := bindA H; (try dsimp only at H); obtain rfl := Option.some.inj H
      go_enter Tryd.func37, Tryd.ntmps37
      go_wp2_with (first | ((with_reducible refine gc_ 31 rfl ?_); refine goesL_ (some 13) rfl rfl Tryd.func31 (by kernel_rfl) rfl #[.int .u64 (Go.bits .or .u64 (ji4) (ji7))] rfl (by (try simp only [List.map_toArray, List.map_cons, List.map_nil]); first | done | (simp only [hji4, hji7]; rfl) | rfl | (simp only [List.length_drop, List.length_take]; rfl)) ?_; (with_reducible refine (spec_l1Word.calls (Go.bits .or .u64 (ji4) (ji7)) t101 _ A8.out).mono ?_); rintro e w' ⟨rfl, ⟨nd, rfl⟩⟩; refine ⟨_, rfl, ?_⟩))
      go_ret
      exact ⟨by first | rfl | (simp; done) | (simp only [← hji4, ← hji5, ← hji7] <;> (first | rfl | simp)) | (simp [*]; done), by repeat (first | exact Drawn0.refl _ | apply Drawn0.step)⟩
    · rw [if_neg c6] at H
      exact absurd H (by simp)
  · rw [if_neg c3] at H
    exact absurd H (by simp)
end
section
open Go.Proofs.YtfinaphomgdmlaaDoorW.PrintWords.Aside0 renaming mk → yaa

abbrev q29_0 : Array Bool := Array.replicate 37 false
abbrev q29_1 : Array Bool := bl_ 37 1
abbrev q29_2 : Array Bool := bl_ 37 3
abbrev q29_3 : Array Bool := bl_ 37 7
abbrev q29_4 : Array Bool := bl_ 37 15
abbrev q29_5 : Array Bool := bl_ 37 31
abbrev q29_6 : Array Bool := bl_ 37 287
abbrev q29_7 : Array Bool := bl_ 37 799
abbrev q29_8 : Array Bool := bl_ 37 1823
abbrev q29_9 : Array Bool := bl_ 37 3871
abbrev q29_10 : Array Bool := bl_ 37 7967
abbrev q29_11 : Array Bool := bl_ 37 139039
abbrev q29_12 : Array Bool := bl_ 37 401183
abbrev q29_13 : Array Bool := bl_ 37 925471
abbrev q29_14 : Array Bool := bl_ 37 1974047
abbrev q29_15 : Array Bool := bl_ 37 4071199
abbrev q29_16 : Array Bool := bl_ 37 71180063
abbrev q29_17 : Array Bool := bl_ 37 205397791
abbrev q29_18 : Array Bool := bl_ 37 473833247
abbrev q29_19 : Array Bool := bl_ 37 1010704159
abbrev q29_20 : Array Bool := bl_ 37 2084445983
abbrev q29_21 : Array Bool := bl_ 37 2084446015
abbrev q29_22 : Array Bool := bl_ 37 2084446079
abbrev q29_23 : Array Bool := bl_ 37 2084446207
abbrev q29_24 : Array Bool := bl_ 37 2084454399
abbrev q29_25 : Array Bool := bl_ 37 2084470783
abbrev q29_26 : Array Bool := bl_ 37 2084503551
abbrev q29_27 : Array Bool := bl_ 37 2084569087
abbrev q29_28 : Array Bool := bl_ 37 2088763391
abbrev q29_29 : Array Bool := bl_ 37 2097151999
abbrev q29_30 : Array Bool := bl_ 37 2113929215
abbrev q29_31 : Array Bool := bl_ 37 2147483647
abbrev q29_32 : Array Bool := bl_ 37 4294967295
abbrev q29_33 : Array Bool := bl_ 37 8589934591
abbrev q29_34 : Array Bool := bl_ 37 17179869183
abbrev q29_35 : Array Bool := bl_ 37 34359738367
abbrev q29_36 : Array Bool := bl_ 37 68719476735
abbrev q29_37 : Array Bool := bl_ 37 137438953471
abbrev q29_38 : Array Bool := Array.replicate 21 false
abbrev q29_39 : Array Bool := bl_ 21 1
abbrev q29_40 : Array Bool := bl_ 21 3
abbrev q29_41 : Array Bool := bl_ 21 7
abbrev q29_42 : Array Bool := bl_ 21 15
abbrev q29_43 : Array Bool := bl_ 21 79
abbrev q29_44 : Array Bool := bl_ 21 207
abbrev q29_45 : Array Bool := bl_ 21 463
abbrev q29_46 : Array Bool := bl_ 21 975
abbrev q29_47 : Array Bool := bl_ 21 9167
abbrev q29_48 : Array Bool := bl_ 21 25551
abbrev q29_49 : Array Bool := bl_ 21 58319
abbrev q29_50 : Array Bool := bl_ 21 123855
abbrev q29_51 : Array Bool := bl_ 21 123871
abbrev q29_52 : Array Bool := bl_ 21 124895
abbrev q29_53 : Array Bool := bl_ 21 255967
abbrev q29_54 : Array Bool := bl_ 21 518111
abbrev q29_55 : Array Bool := bl_ 21 518143
abbrev q29_56 : Array Bool := bl_ 21 520191
abbrev q29_57 : Array Bool := bl_ 21 524287
abbrev q29_58 : Array Bool := bl_ 21 1048575
abbrev q29_59 : Array Bool := bl_ 21 2097151
abbrev q29_60 : Array Bool := Array.replicate 20 false
abbrev q29_61 : Array Bool := bl_ 20 1
abbrev q29_62 : Array Bool := bl_ 20 3
abbrev q29_63 : Array Bool := bl_ 20 7
abbrev q29_64 : Array Bool := bl_ 20 15
abbrev q29_65 : Array Bool := bl_ 20 31
abbrev q29_66 : Array Bool := bl_ 20 95
abbrev q29_67 : Array Bool := bl_ 20 351
abbrev q29_68 : Array Bool := bl_ 20 863
abbrev q29_69 : Array Bool := bl_ 20 1887
abbrev q29_70 : Array Bool := bl_ 20 3935
abbrev q29_71 : Array Bool := bl_ 20 20319
abbrev q29_72 : Array Bool := bl_ 20 20351
abbrev q29_73 : Array Bool := bl_ 20 20479
abbrev q29_74 : Array Bool := bl_ 20 24575
abbrev q29_75 : Array Bool := bl_ 20 32767
abbrev q29_76 : Array Bool := bl_ 20 65535
abbrev q29_77 : Array Bool := bl_ 20 131071
abbrev q29_78 : Array Bool := bl_ 20 262143
abbrev q29_79 : Array Bool := bl_ 20 524287
abbrev q29_80 : Array Bool := bl_ 20 1048575
mutual
def spec_l1Words.l0 : Nat → List Int → List Int → Int → Option (List Int)
 | 0, _, _, _ => none
 | k + 1, x0, x3, x4 => if x4 < 16 then (if 0 ≤ (wrap64 (4 * x4)) then (if (wrap64 (4 * x4)) < (x0.length : Int) then (if 0 ≤ (wrap64 ((wrap64 (4 * x4)) + 1)) then (if (wrap64 ((wrap64 (4 * x4)) + 1)) < (x0.length : Int) then (if 0 ≤ (wrap64 ((wrap64 (4 * x4)) + 2)) then (if (wrap64 ((wrap64 (4 * x4)) + 2)) < (x0.length : Int) then (if 0 ≤ (wrap64 ((wrap64 (4 * x4)) + 3)) then (if (wrap64 ((wrap64 (4 * x4)) + 3)) < (x0.length : Int) then (if x3.length < 17592186044416 then (spec_l1Words.l0 k x0 (x3 ++ [Go.bits .or .u64 (Go.bits .or .u64 (Go.bits .or .u64 (IntKind.u64.wrap ((IntKind.u64.wrap (rd x0 (wrap64 (4 * x4)))) * 16777216)) (IntKind.u64.wrap ((IntKind.u64.wrap (rd x0 (wrap64 ((wrap64 (4 * x4)) + 1)))) * 65536))) (IntKind.u64.wrap ((IntKind.u64.wrap (rd x0 (wrap64 ((wrap64 (4 * x4)) + 2)))) * 256))) (IntKind.u64.wrap (rd x0 (wrap64 ((wrap64 (4 * x4)) + 3))))]) (wrap64 (x4 + 1))) else (none)) else (none)) else (none)) else (none)) else (none)) else (none)) else (none)) else (none)) else (none)) else (spec_l1Words.l1 k x3 16)
def spec_l1Words.l1 : Nat → List Int → Int → Option (List Int)
 | 0, _, _ => none
 | k + 1, x3, x5 => if x5 < 64 then (if 0 ≤ (wrap64 (x5 - 15)) then (if (wrap64 (x5 - 15)) < (x3.length : Int) then ((spec_l1Turn.f (rd x3 (wrap64 (x5 - 15))) 7).bind fun t112 => ((spec_l1Turn.f (rd x3 (wrap64 (x5 - 15))) 18).bind fun t114 => (if 0 ≤ (wrap64 (x5 - 2)) then (if (wrap64 (x5 - 2)) < (x3.length : Int) then ((spec_l1Turn.f (rd x3 (wrap64 (x5 - 2))) 17).bind fun t117 => ((spec_l1Turn.f (rd x3 (wrap64 (x5 - 2))) 19).bind fun t119 => (if 0 ≤ (wrap64 (x5 - 16)) then (if (wrap64 (x5 - 16)) < (x3.length : Int) then (if 0 ≤ (wrap64 (x5 - 7)) then (if (wrap64 (x5 - 7)) < (x3.length : Int) then ((spec_l1Word.f (IntKind.u64.wrap ((IntKind.u64.wrap ((IntKind.u64.wrap ((rd x3 (wrap64 (x5 - 16))) + (Go.bits .xor .u64 (Go.bits .xor .u64 t112 t114) ((rd x3 (wrap64 (x5 - 15))) / 8)))) + (rd x3 (wrap64 (x5 - 7))))) + (Go.bits .xor .u64 (Go.bits .xor .u64 t117 t119) ((rd x3 (wrap64 (x5 - 2))) / 1024))))).bind fun t123 => (if x3.length < 17592186044416 then (spec_l1Words.l1 k (x3 ++ [t123]) (wrap64 (x5 + 1))) else (none))) else (none)) else (none)) else (none)) else (none)))) else (none)) else (none)))) else (none)) else (none)) else (some x3)
end
def spec_l1Words.f (k : Nat) (l0 : List Int) : Option (List Int) := spec_l1Words.l0 k l0 (([] : List Int)) 0
theorem spec_l1Words.mono_l : ∀ k, (∀ y0 y1 y2, LeO (spec_l1Words.l0 k y0 y1 y2) (spec_l1Words.l0 (k + 1) y0 y1 y2)) ∧ (∀ y0 y1, LeO (spec_l1Words.l1 k y0 y1) (spec_l1Words.l1 (k + 1) y0 y1))
 | 0 => ⟨fun _ _ _ r h => by simp [spec_l1Words.l0] at h, fun _ _ r h => by simp [spec_l1Words.l1] at h⟩
 | k + 1 => by
  obtain ⟨ih0, ih1⟩ := spec_l1Words.mono_l k
  refine ⟨?_, ?_⟩
  ·
   intro y0 y1 y2
   unfold spec_l1Words.l0
   repeat' first | (with_reducible first | exact ih0 .. | exact ih1 .. | exact LeO.refl .. | exact LeO.none .. | refine LeO.ite ?_ ?_ | refine LeO.bind ?_ (fun _ => ?_)) | exact ih0 .. | exact ih1 .. | exact LeO.none .. | refine LeO.ite ?_ ?_ | refine LeO.bind ?_ (fun _ => ?_)
  ·
   intro y0 y1
   unfold spec_l1Words.l1
   repeat' first | (with_reducible first | exact ih0 .. | exact ih1 .. | exact LeO.refl .. | exact LeO.none .. | refine LeO.ite ?_ ?_ | refine LeO.bind ?_ (fun _ => ?_)) | exact ih0 .. | exact ih1 .. | exact LeO.none .. | refine LeO.ite ?_ ?_ | refine LeO.bind ?_ (fun _ => ?_)
theorem spec_l1Words.mono : ∀ a0 k, LeO (spec_l1Words.f k a0) (spec_l1Words.f (k + 1) a0) := by
 intro a0 k
 obtain ⟨ih0, ih1⟩ := spec_l1Words.mono_l k
 unfold spec_l1Words.f
 repeat' first | (with_reducible first | exact ih0 .. | exact ih1 .. | exact LeO.refl .. | exact LeO.none .. | refine LeO.ite ?_ ?_ | refine LeO.bind ?_ (fun _ => ?_)) | exact ih0 .. | exact ih1 .. | exact LeO.none .. | refine LeO.ite ?_ ?_ | refine LeO.bind ?_ (fun _ => ?_)
def spec_l1Words.T5 : Bool × List (List Nat × List Nat) := (true, [([], []), ([], []), ([], []), ([2], [2]), ([1, 3], [1, 3]), ([4], [4]), ([5], [5]), ([6], [6]), ([], []), ([], []), ([9], [9]), ([10], [10]), ([8, 11], [8, 11]), ([12], [12]), ([13], [13]), ([14], [14]), ([7, 15], [7, 15]), ([], []), ([], []), ([18], [18]), ([19], [19]), ([17, 20], [17, 20]), ([21], [21]), ([22], [22]), ([23], [23]), ([16, 24], [16, 24]), ([], []), ([], []), ([27], [27]), ([28], [28]), ([26, 29], [26, 29]), ([30], [30]), ([31], [31]), ([25, 32], [25, 32]), ([33], [33]), ([0, 34], [0, 34]), ([35, 35, 0, 1, 2, 3, 4, 5, 6, 7, 8, 9, 10, 11, 12, 13, 14, 15, 16, 17, 18, 19, 20, 21, 22, 23, 24, 25, 26, 27, 28, 29, 30, 31, 32, 33, 34, 35], [0, 35])])
def spec_l1Words.B5 : List Nat := [0, 0, 0, 4, 14, 30, 62, 126, 0, 0, 512, 1536, 3840, 7936, 16128, 32512, 65534, 0, 0, 262144, 786432, 1966080, 4063232, 8257536, 16646144, 33554430, 0, 0, 134217728, 402653184, 1006632960, 2080374784, 4227858432, 8589934590, 17179869182, 34359738367, 68719476735]
theorem spec_l1Words.tab5 : rtab .any (opsOf Tryd.f29 5) = spec_l1Words.T5 := by kernel_rfl
theorem spec_l1Words.bits5 : waitsOk spec_l1Words.T5.2 spec_l1Words.B5 = true := by kernel_rfl
def spec_l1Words.T9 : Bool × List (List Nat × List Nat) := (true, [([], []), ([], []), ([1], [1]), ([0, 2], [0, 2]), ([3], [3]), ([4], [4]), ([], []), ([], []), ([7], [7]), ([6, 8], [6, 8]), ([9], [9]), ([10, 5], [10]), ([5, 11], [5, 11]), ([], []), ([], []), ([14], [14]), ([13, 15], [13, 15]), ([16], [16]), ([17], [17]), ([12, 18], [12, 18]), ([19, 11, 0, 1, 2, 3, 4, 5, 6, 7, 8, 9, 10, 11, 12, 13, 14, 15, 16, 17, 18, 19], [19])])
def spec_l1Words.B9 : List Nat := [0, 0, 2, 7, 15, 31, 0, 0, 128, 448, 960, 2047, 4095, 0, 0, 16384, 57344, 122880, 253952, 524287, 1048575]
theorem spec_l1Words.tab9 : rtab .any (opsOf Tryd.f29 9) = spec_l1Words.T9 := by kernel_rfl
theorem spec_l1Words.bits9 : waitsOk spec_l1Words.T9.2 spec_l1Words.B9 = true := by kernel_rfl
def spec_l1Words.T10 : Bool × List (List Nat × List Nat) := (true, [([], []), ([], []), ([1], [1]), ([0, 2], [0, 2]), ([3], [3]), ([4], [4]), ([], []), ([], []), ([7], [7]), ([6, 8], [6, 8]), ([9], [9]), ([10, 5], [10]), ([5, 11], [5, 11]), ([], []), ([], []), ([14], [14]), ([13, 15], [13, 15]), ([16], [16]), ([17], [17]), ([12, 18], [12, 18]), ([19, 11, 0, 1, 2, 3, 4, 5, 6, 7, 8, 9, 10, 11, 12, 13, 14, 15, 16, 17, 18, 19], [19])])
def spec_l1Words.B10 : List Nat := [0, 0, 2, 7, 15, 31, 0, 0, 128, 448, 960, 2047, 4095, 0, 0, 16384, 57344, 122880, 253952, 524287, 1048575]
theorem spec_l1Words.tab10 : rtab .any (opsOf Tryd.f29 10) = spec_l1Words.T10 := by kernel_rfl
theorem spec_l1Words.bits10 : waitsOk spec_l1Words.T10.2 spec_l1Words.B10 = true := by kernel_rfl
def spec_l1Words.T11 : Bool × List (List Nat × List Nat) := (true, [([], []), ([], []), ([], []), ([2], [2]), ([1, 3], [1, 3]), ([4], [4]), ([], []), ([5, 6], [5, 6]), ([], []), ([], []), ([9], [9]), ([8, 10], [8, 10]), ([11], [11]), ([7, 12], [7, 12]), ([], []), ([13, 14], [13, 14]), ([15], [15]), ([16], [16]), ([0, 17, 16], [0, 17]), ([18, 18, 0, 1, 2, 3, 4, 5, 6, 7, 8, 9, 10, 11, 12, 13, 14, 15, 16, 17, 18], [0, 1, 8, 18])])
def spec_l1Words.B11 : List Nat := [0, 0, 0, 4, 14, 30, 0, 126, 0, 0, 512, 1792, 3840, 8190, 0, 32766, 65534, 131070, 262143, 524287]
theorem spec_l1Words.tab11 : rtab .any (opsOf Tryd.f29 11) = spec_l1Words.T11 := by kernel_rfl
theorem spec_l1Words.bits11 : waitsOk spec_l1Words.T11.2 spec_l1Words.B11 = true := by kernel_rfl
set_option maxHeartbeats 8000000 in
set_option maxRecDepth 100000 in
theorem spec_l1Words.calls (k : Nat) (A0 : Option Addr) (c0 : Nat) (l0 : List Int) (r : List Int) (w : World) (hr0 : Kd.C (Kd.int .u8) w A0 l0.length l0) (hc0 : l0.length ≤ c0) (h : spec_l1Words.f k l0 = some r) :
  Calls Tryd.prog 29 #[.slice A0 l0.length c0] w fun e w' => ∃ v0_ : Value, e = .returned (v0_) ∧ Kd.R (Kd.int .u64) 40 w' w.heap.size (fun _ => True) v0_ r ∧ Below w.heap.size w w' := by
 have HR0 := yaa hr0; have HC0 := yaa hc0; clear hr0 hc0; have HB := yaa (Below.refl w.heap.size w); have H : (spec_l1Words.l0 k l0 (([] : List Int)) 0) = some r := h; clear h; obtain ⟨y101, hy101⟩ : ∃ y_ : List Int, y_ = (([] : List Int)) := ⟨_, rfl⟩
 replace H : (spec_l1Words.l0 k l0 y101 0) = some r := by first | (rw [hy101]; with_reducible exact H) | (have H2_ := (Option.bind_some _ _).symm.trans H; rw [hy101]; with_reducible exact H2_) | (have H2_ := (Option.bind_some _ _).symm.trans H; with_reducible exact H2_) | with_reducible exact H | (rw [hy101]; exact H) | exact H
 have Ny101 := yaa hy101; clear hy101; have H' := yaa H; clear H
 go_enter Tryd.func29, Tryd.ntmps29
 go_wp2_with (first | ((with_reducible refine gd_ 8 rfl ?_); refine Kd.R_lit (Kd.int .u64) _ 40 ?hg (N := 8) ?hd (xs := ([] : List Int)) (inner := []) (ok := fun _ => True) (okp := fun _ => True) ?hr ?hp (fun _ hk => hk) trivial (Below.refl _ _) (Nat.le_refl _) (by simp) ?_; (case hd => rfl); (case hg => rfl); (case hr => first | (go_simp; done) | (go_simp; rfl)); (case hp => exact (Reps.none _ _)); intro f8 w2 ho3 hb hg_ hnew_; clear hg_ hnew_; (first | rw [← Ny101.out] at ho3 | (simp only [Int.reduceToNat] at ho3; rw [← Ny101.out] at ho3)); have d4 := yaa (Kd.R_lower ho3 (below_size (upH HB.out))); replace HB := yaa (below_step (upH HB.out) hb); clear hb ho3))
 (try simp only [Act.put, List.setIfInBounds_toArray, List.set_cons_zero, List.set_cons_succ])
 go_loopg [3, 4] k (fun kq v3 v4 w' => ∃ (a4 : List Int) (a5 : Int), v4 = .int .i64 a5 ∧ Aside0 (spec_l1Words.l0 kq l0 a4 a5 = some r) ∧ Aside0 (kq ≤ k) ∧ Aside0 (Kd.R (Kd.int .u64) 40 w' w.heap.size (fun _ => True) v3 a4) ∧ Aside0 (Below w.heap.size w w'))
 case atStart => exact ⟨(y101), (0), (by first | rfl | (simp; done) | (simp [*]; done)), H', ⟨Nat.le_refl _⟩, ⟨by first | exact d4.out | exact upR d4.out⟩, ⟨upH HB.out⟩⟩
 case round =>
  clear H'; (try clear c2); (try clear p2); obtain ⟨a4, a5, rfl, HA, HK1, a3, HB⟩ := hrel
  cases gk with
  | zero => exact absurd HA.out (by simp [spec_l1Words.l0])
  | succ k1 =>
   have H := HA.out; clear HA
   simp only [spec_l1Words.l0] at H
   by_cases c4 : a5 < 16
   ·
    rw [if_pos c4] at H
    have d8 : decide (a5 < 16) = true := decide_eq_true c4; clear c4; obtain ⟨ji5, hji5⟩ : ∃ j_ : Int, (wrap64 (4 * a5)) = j_ := ⟨_, rfl⟩
    replace H : (if 0 ≤ (ji5) then (if (ji5) < (l0.length : Int) then (if 0 ≤ (wrap64 ((ji5) + 1)) then (if (wrap64 ((ji5) + 1)) < (l0.length : Int) then (if 0 ≤ (wrap64 ((ji5) + 2)) then (if (wrap64 ((ji5) + 2)) < (l0.length : Int) then (if 0 ≤ (wrap64 ((ji5) + 3)) then (if (wrap64 ((ji5) + 3)) < (l0.length : Int) then (if a4.length < 17592186044416 then (spec_l1Words.l0 k1 l0 (a4 ++ [Go.bits .or .u64 (Go.bits .or .u64 (Go.bits .or .u64 (IntKind.u64.wrap ((IntKind.u64.wrap (rd l0 (ji5))) * 16777216)) (IntKind.u64.wrap ((IntKind.u64.wrap (rd l0 (wrap64 ((ji5) + 1)))) * 65536))) (IntKind.u64.wrap ((IntKind.u64.wrap (rd l0 (wrap64 ((ji5) + 2)))) * 256))) (IntKind.u64.wrap (rd l0 (wrap64 ((ji5) + 3))))]) (wrap64 (a5 + 1))) else (none)) else (none)) else (none)) else (none)) else (none)) else (none)) else (none)) else (none)) else (none)) = some r := by first | (rw [hji5] at H; exact H) | (simp only [hji5] at H ⊢; exact H)
    have hji5w : (IntKind.i64.wrap (4 * a5)) = ji5 := (i64_w _).trans hji5
    by_cases c6 : 0 ≤ (ji5)
    ·
     rw [if_pos c6] at H
     replace c6 := decide_eq_true c6
     by_cases c7 : (ji5) < (l0.length : Int)
     ·
      rw [if_pos c7] at H
      replace c7 := decide_eq_true c7; obtain ⟨ji8, hji8⟩ : ∃ j_ : Int, (wrap64 ((ji5) + 1)) = j_ := ⟨_, rfl⟩
      replace H : (if 0 ≤ (ji8) then (if (ji8) < (l0.length : Int) then (if 0 ≤ (wrap64 ((ji5) + 2)) then (if (wrap64 ((ji5) + 2)) < (l0.length : Int) then (if 0 ≤ (wrap64 ((ji5) + 3)) then (if (wrap64 ((ji5) + 3)) < (l0.length : Int) then (if a4.length < 17592186044416 then (spec_l1Words.l0 k1 l0 (a4 ++ [Go.bits .or .u64 (Go.bits .or .u64 (Go.bits .or .u64 (IntKind.u64.wrap ((IntKind.u64.wrap (rd l0 (ji5))) * 16777216)) (IntKind.u64.wrap ((IntKind.u64.wrap (rd l0 (ji8))) * 65536))) (IntKind.u64.wrap ((IntKind.u64.wrap (rd l0 (wrap64 ((ji5) + 2)))) * 256))) (IntKind.u64.wrap (rd l0 (wrap64 ((ji5) + 3))))]) (wrap64 (a5 + 1))) else (none)) else (none)) else (none)) else (none)) else (none)) else (none)) else (none)) = some r := by first | (rw [hji8] at H; exact H) | (simp only [hji8] at H ⊢; exact H)
      have hji8w : (IntKind.i64.wrap ((ji5) + 1)) = ji8 := (i64_w _).trans hji8
      by_cases c9 : 0 ≤ (ji8)
      ·
       rw [if_pos c9] at H
       replace c9 := decide_eq_true c9
       by_cases c10 : (ji8) < (l0.length : Int)
       ·
        rw [if_pos c10] at H
        replace c10 := decide_eq_true c10; obtain ⟨ji11, hji11⟩ : ∃ j_ : Int, (wrap64 ((ji5) + 2)) = j_ := ⟨_, rfl⟩
        replace H : (if 0 ≤ (ji11) then (if (ji11) < (l0.length : Int) then (if 0 ≤ (wrap64 ((ji5) + 3)) then (if (wrap64 ((ji5) + 3)) < (l0.length : Int) then (if a4.length < 17592186044416 then (spec_l1Words.l0 k1 l0 (a4 ++ [Go.bits .or .u64 (Go.bits .or .u64 (Go.bits .or .u64 (IntKind.u64.wrap ((IntKind.u64.wrap (rd l0 (ji5))) * 16777216)) (IntKind.u64.wrap ((IntKind.u64.wrap (rd l0 (ji8))) * 65536))) (IntKind.u64.wrap ((IntKind.u64.wrap (rd l0 (ji11))) * 256))) (IntKind.u64.wrap (rd l0 (wrap64 ((ji5) + 3))))]) (wrap64 (a5 + 1))) else (none)) else (none)) else (none)) else (none)) else (none)) = some r := by first | (rw [hji11] at H; exact H) | (simp only [hji11] at H ⊢; exact H)
        have hji11w : (IntKind.i64.wrap ((ji5) + 2)) = ji11 := (i64_w _).trans hji11
        by_cases c12 : 0 ≤ (ji11)
        ·
         rw [if_pos c12] at H
         replace c12 := decide_eq_true c12
         by_cases c13 : (ji11) < (l0.length : Int)
         ·
          rw [if_pos c13] at H
          replace c13 := decide_eq_true c13; obtain ⟨ji14, hji14⟩ : ∃ j_ : Int, (wrap64 ((ji5) + 3)) = j_ := ⟨_, rfl⟩
          replace H : (if 0 ≤ (ji14) then (if (ji14) < (l0.length : Int) then (if a4.length < 17592186044416 then (spec_l1Words.l0 k1 l0 (a4 ++ [Go.bits .or .u64 (Go.bits .or .u64 (Go.bits .or .u64 (IntKind.u64.wrap ((IntKind.u64.wrap (rd l0 (ji5))) * 16777216)) (IntKind.u64.wrap ((IntKind.u64.wrap (rd l0 (ji8))) * 65536))) (IntKind.u64.wrap ((IntKind.u64.wrap (rd l0 (ji11))) * 256))) (IntKind.u64.wrap (rd l0 (ji14)))]) (wrap64 (a5 + 1))) else (none)) else (none)) else (none)) = some r := by first | (rw [hji14] at H; exact H) | (simp only [hji14] at H ⊢; exact H)
          have hji14w : (IntKind.i64.wrap ((ji5) + 3)) = ji14 := (i64_w _).trans hji14
          by_cases c15 : 0 ≤ (ji14)
          ·
           rw [if_pos c15] at H
           replace c15 := decide_eq_true c15
           by_cases c16 : (ji14) < (l0.length : Int)
           ·
            rw [if_pos c16] at H
            replace c16 := decide_eq_true c16
            by_cases c17 : a4.length < 17592186044416
            ·
             rw [if_pos c17] at H
             have LMc17 := yaa c17; clear c17; obtain ⟨y108, hy108⟩ : ∃ y_ : List Int, y_ = (a4 ++ [Go.bits .or .u64 (Go.bits .or .u64 (Go.bits .or .u64 (IntKind.u64.wrap ((IntKind.u64.wrap (rd l0 (ji5))) * 16777216)) (IntKind.u64.wrap ((IntKind.u64.wrap (rd l0 (ji8))) * 65536))) (IntKind.u64.wrap ((IntKind.u64.wrap (rd l0 (ji11))) * 256))) (IntKind.u64.wrap (rd l0 (ji14)))]) := ⟨_, rfl⟩
             replace H : (spec_l1Words.l0 k1 l0 y108 (wrap64 (a5 + 1))) = some r := by first | (rw [hy108]; with_reducible exact H) | (have H2_ := (Option.bind_some _ _).symm.trans H; rw [hy108]; with_reducible exact H2_) | (have H2_ := (Option.bind_some _ _).symm.trans H; with_reducible exact H2_) | with_reducible exact H | (rw [hy108]; exact H) | exact H
             have Ny108 := yaa hy108; clear hy108; have H' := yaa H; clear H
             try go_wp2
             replace a3 := yaa (Kd.R_drew a3.out); replace HB := yaa (below_drew1 HB.out); have p104 : 0 ≤ ((ji5) : Int) := of_decide_eq_true (by assumption); have q104 : (ji5) < (l0.length : Int) := of_decide_eq_true (by assumption); obtain ⟨ad104, e1, a6⟩ := Kd.at_int HR0.out (ji5) p104 q104; have b1 := a6
             cases e1
             replace a6 := (upc_ HB.out a6 :); replace p104 := eq_true p104; replace q104 := eq_true q104; have p105 : 0 ≤ ((ji8) : Int) := of_decide_eq_true (by assumption); have q105 : (ji8) < (l0.length : Int) := of_decide_eq_true (by assumption); obtain ⟨ad105, e2, a7⟩ := Kd.at_int HR0.out (ji8) p105 q105; have b2 := a7; obtain rfl : ad104 = ad105 := (by injection e2); replace a7 := (upc_ HB.out a7 :); replace p105 := eq_true p105; replace q105 := eq_true q105; have p106 : 0 ≤ ((ji11) : Int) := of_decide_eq_true (by assumption); have q106 : (ji11) < (l0.length : Int) := of_decide_eq_true (by assumption); obtain ⟨ad106, e3, a8⟩ := Kd.at_int HR0.out (ji11) p106 q106; have b3 := a8; obtain rfl : ad104 = ad106 := (by injection e3); replace a8 := (upc_ HB.out a8 :); replace p106 := eq_true p106; replace q106 := eq_true q106; have p107 : 0 ≤ ((ji14) : Int) := of_decide_eq_true (by assumption); have q107 : (ji14) < (l0.length : Int) := of_decide_eq_true (by assumption); obtain ⟨ad107, e4, a9⟩ := Kd.at_int HR0.out (ji14) p107 q107; have b4 := a9; obtain rfl : ad104 = ad107 := (by injection e4); replace a9 := (upc_ HB.out a9 :); replace p107 := eq_true p107; replace q107 := eq_true q107
             refine start_ (n := 37) (S := fun w' => w'.cell? (ad104.add ((ji5)).toNat) = some (.int .u8 (rd l0 (ji5))) ∧ w'.cell? (ad104.add ((ji8)).toNat) = some (.int .u8 (rd l0 (ji8))) ∧ w'.cell? (ad104.add ((ji11)).toNat) = some (.int .u8 (rd l0 (ji11))) ∧ w'.cell? (ad104.add ((ji14)).toNat) = some (.int .u8 (rd l0 (ji14)))) (ds := []) q29_0 (by kernel_rfl) rfl rfl ⟨(upc_ HB.out b1 :), (upc_ HB.out b2 :), (upc_ HB.out b3 :), (upc_ HB.out b4 :)⟩ (fun hHeld => ?_); refine with_tabW spec_l1Words.tab5 spec_l1Words.bits5 (fun HT_ HW_ => ?_)
             generalize wr.drew = w18 at a3 HB a6 a7 a8 a9 hHeld ⊢
             refine pz_ 0 13 q29_1 HT_ (by kernel_rfl) ?_
             refine pz_ 1 14 q29_2 HT_ (by kernel_rfl) ?_
             refine pz_ 2 15 q29_3 HT_ (by kernel_rfl) ?_
             refine pz_ 3 16 q29_4 HT_ (by kernel_rfl) ?_
             refine pz_ 4 17 q29_5 HT_ (by kernel_rfl) ?_
             refine pz_ 8 21 q29_6 HT_ (by kernel_rfl) ?_
             refine pz_ 9 22 q29_7 HT_ (by kernel_rfl) ?_
             refine pz_ 10 23 q29_8 HT_ (by kernel_rfl) ?_
             refine pz_ 11 24 q29_9 HT_ (by kernel_rfl) ?_
             refine pz_ 12 25 q29_10 HT_ (by kernel_rfl) ?_
             refine pz_ 17 30 q29_11 HT_ (by kernel_rfl) ?_
             refine pz_ 18 31 q29_12 HT_ (by kernel_rfl) ?_
             refine pz_ 19 32 q29_13 HT_ (by kernel_rfl) ?_
             refine pz_ 20 33 q29_14 HT_ (by kernel_rfl) ?_
             refine pz_ 21 34 q29_15 HT_ (by kernel_rfl) ?_
             refine pz_ 26 39 q29_16 HT_ (by kernel_rfl) ?_
             refine pz_ 27 40 q29_17 HT_ (by kernel_rfl) ?_
             refine pz_ 28 41 q29_18 HT_ (by kernel_rfl) ?_
             refine pz_ 29 42 q29_19 HT_ (by kernel_rfl) ?_
             refine pz_ 30 43 q29_20 HT_ (by kernel_rfl) ?_
             refine tz_ 5 18 q29_21 HT_ HW_ (by kernel_rfl) hHeld ?_
             refine pz_ 6 19 q29_22 HT_ (by kernel_rfl) ?_
             refine pz_ 7 20 q29_23 HT_ (by kernel_rfl) ?_
             refine tz_ 13 26 q29_24 HT_ HW_ (by kernel_rfl) hHeld ?_
             refine pz_ 14 27 q29_25 HT_ (by kernel_rfl) ?_
             refine pz_ 15 28 q29_26 HT_ (by kernel_rfl) ?_
             refine pz_ 16 29 q29_27 HT_ (by kernel_rfl) ?_
             refine tz_ 22 35 q29_28 HT_ HW_ (by kernel_rfl) hHeld ?_
             refine pz_ 23 36 q29_29 HT_ (by kernel_rfl) ?_
             refine pz_ 24 37 q29_30 HT_ (by kernel_rfl) ?_
             refine pz_ 25 38 q29_31 HT_ (by kernel_rfl) ?_
             refine tz_ 31 44 q29_32 HT_ HW_ (by kernel_rfl) hHeld ?_
             refine pz_ 32 45 q29_33 HT_ (by kernel_rfl) ?_
             refine pz_ 33 46 q29_34 HT_ (by kernel_rfl) ?_
             refine one_ (i := 34) (N := some 47) q29_35 rfl rfl (one_of HT_.out (by kernel_rfl)) (by decide) (fun K hK => ?_)
             refine value_ (w1 := ?_) (v := ?_) (by rfl) rfl ?_ ?_
             rotate_left 2
             ·
              go_simp
              constructor
              ·
               rfl
              ·
               rfl
             refine hK.out _ _ ⟨(World.cell?_alloc_lt _ _ _ (World.block_lt_of_cell? _ _ ((upc_ HB.out b1 :)))).trans ((upc_ HB.out b1 :)), (World.cell?_alloc_lt _ _ _ (World.block_lt_of_cell? _ _ ((upc_ HB.out b2 :)))).trans ((upc_ HB.out b2 :)), (World.cell?_alloc_lt _ _ _ (World.block_lt_of_cell? _ _ ((upc_ HB.out b3 :)))).trans ((upc_ HB.out b3 :)), (World.cell?_alloc_lt _ _ _ (World.block_lt_of_cell? _ _ ((upc_ HB.out b4 :)))).trans ((upc_ HB.out b4 :))⟩ (fun hHeld => ?_)
             clear hK K
             refine norm_ (a' := ?_) ?_ ?_
             rotate_left
             ·
              show Act.put _ (some 47) _ = _
              simp only [Act.put, List.setIfInBounds_toArray, List.set_cons_zero, List.set_cons_succ, i64_w, i32_w]
              rfl
             refine one_ (i := 35) (N := some 48) q29_36 rfl rfl (one_of HT_.out (by kernel_rfl)) (by decide) (fun K hK => ?_)
             refine Kd.R_append_step (Kd.int .u64) (w0 := w) w.heap.size (by rfl) (.tmp 13) (.tmp 47) 38 40 (.int .u64 0) 8 rfl Tryd.underlying38 info40 rfl (by decide) (by omega) u3 a4 (Go.bits .or .u64 (Go.bits .or .u64 (Go.bits .or .u64 (IntKind.u64.wrap ((IntKind.u64.wrap (rd l0 (ji5))) * 16777216)) (IntKind.u64.wrap ((IntKind.u64.wrap (rd l0 (ji8))) * 65536))) (IntKind.u64.wrap ((IntKind.u64.wrap (rd l0 (ji11))) * 256))) (IntKind.u64.wrap (rd l0 (ji14)))) [.int .u64 (Go.bits .or .u64 (Go.bits .or .u64 (Go.bits .or .u64 (IntKind.u64.wrap ((IntKind.u64.wrap (rd l0 (ji5))) * 16777216)) (IntKind.u64.wrap ((IntKind.u64.wrap (rd l0 (ji8))) * 65536))) (IntKind.u64.wrap ((IntKind.u64.wrap (rd l0 (ji11))) * 256))) (IntKind.u64.wrap (rd l0 (ji14))))] (fun _ => True) (fun _ => False) rfl rfl ?aP (fun _ hk => hk.elim) ?aF ?aO ?aB ?aS ?aL ?_
             (case aP => exact rfl)
             (case aB => exact (upH HB.out))
             (case aF => exact (fun _ _ => trivial))
             (case aO => exact (upR a3.out))
             (case aS => exact (below_size (upH HB.out)))
             (case aL => have := LMc17.out; omega)
             intro f9 w19 ho hb hg hat
             rw [← Ny108.out] at ho
             replace HB := yaa (hb); have d5 := yaa (ho); clear a3; clear ho hb hg hat
             refine hK.out _ _ ⟨(upc_ HB.out b1 :), (upc_ HB.out b2 :), (upc_ HB.out b3 :), (upc_ HB.out b4 :)⟩ (fun hHeld => ?_)
             clear hK K
             refine norm_ (a' := ?_) ?_ ?_
             rotate_left
             ·
              show Act.put _ (some 48) _ = _
              simp only [Act.put, List.setIfInBounds_toArray, List.set_cons_zero, List.set_cons_succ, i64_w, i32_w]
              rfl
             refine pz_ 36 3 q29_37 HT_ (by kernel_rfl) ?_
             refine done_ (done_of HT_.out (by kernel_rfl)) ?_
             try go_wp2
             go_roundg k1
             case measure => have := HK1.out; omega
             case rel => exact ⟨(y108), (wrap64 (a5 + 1)), (by first | rfl | (simp; done) | (simp [*]; done)), H', ⟨by have := HK1.out; omega⟩, ⟨by first | exact d5.out | exact upR d5.out⟩, ⟨upH HB.out⟩⟩
            ·
             rw [if_neg c17] at H
             exact absurd H (by simp)
           ·
            rw [if_neg c16] at H
            exact absurd H (by simp)
          ·
           rw [if_neg c15] at H
           exact absurd H (by simp)
         ·
          rw [if_neg c13] at H
          exact absurd H (by simp)
        ·
         rw [if_neg c12] at H
         exact absurd H (by simp)
       ·
        rw [if_neg c10] at H
        exact absurd H (by simp)
      ·
       rw [if_neg c9] at H
       exact absurd H (by simp)
     ·
      rw [if_neg c7] at H
      exact absurd H (by simp)
    ·
     rw [if_neg c6] at H
     exact absurd H (by simp)
   ·
    rw [if_neg c4] at H
    have d8 : decide (a5 < 16) = false := decide_eq_false c4; clear c4; have H' := yaa H; clear H
    go_wp2
    (try simp only [Act.put, List.setIfInBounds_toArray, List.set_cons_zero, List.set_cons_succ])
    go_loopg [3, 5] k1 (fun kq v3 v5 w' => ∃ (a1 : List Int) (a2 : Int), v5 = .int .i64 a2 ∧ Aside0 (spec_l1Words.l1 kq a1 a2 = some r) ∧ Aside0 (kq ≤ k1) ∧ Aside0 (Kd.R (Kd.int .u64) 40 w' w.heap.size (fun _ => True) v3 a1) ∧ Aside0 (Below w.heap.size w w'))
    case atStart => exact ⟨(a4), (16), (by first | rfl | (simp; done) | (simp [*]; done)), H', ⟨Nat.le_refl _⟩, ⟨by first | exact a3.out | exact upR a3.out⟩, ⟨upH HB.out⟩⟩
    case round =>
     clear H'; (try clear c1); (try clear p1); (try clear q1); (try clear hx1); (try clear c2); (try clear p2); (try clear c4); (try clear d8); (try clear c6); (try clear c6b0); (try clear p6); (try clear c7); (try clear c7b0); (try clear c9); (try clear c9b0); (try clear c10); (try clear c10b0); (try clear p10); (try clear q10); (try clear hx10); (try clear c12); (try clear c12b0); (try clear c13); (try clear c13b0); (try clear c15); (try clear c15b0); (try clear c16); (try clear c16b0); (try clear c17); (try clear a6); (try clear a7); (try clear a8); (try clear a9); (try clear p104); (try clear p105); (try clear p106); (try clear p107); (try clear p2); (try clear q104); (try clear q105); (try clear q106); (try clear q107); obtain ⟨a1, a2, rfl, HA, HK2, a3, HB⟩ := hrel
     cases gk with
     | zero => exact absurd HA.out (by simp [spec_l1Words.l1])
     | succ k2 =>
      have H := HA.out; clear HA
      simp only [spec_l1Words.l1] at H
      by_cases c20 : a2 < 64
      ·
       rw [if_pos c20] at H
       have d9 : decide (a2 < 64) = true := decide_eq_true c20; clear c20; obtain ⟨ji21, hji21⟩ : ∃ j_ : Int, (wrap64 (a2 - 15)) = j_ := ⟨_, rfl⟩
       replace H : (if 0 ≤ (ji21) then (if (ji21) < (a1.length : Int) then ((spec_l1Turn.f (rd a1 (ji21)) 7).bind fun b7 => ((spec_l1Turn.f (rd a1 (ji21)) 18).bind fun b8 => (if 0 ≤ (wrap64 (a2 - 2)) then (if (wrap64 (a2 - 2)) < (a1.length : Int) then ((spec_l1Turn.f (rd a1 (wrap64 (a2 - 2))) 17).bind fun b5 => ((spec_l1Turn.f (rd a1 (wrap64 (a2 - 2))) 19).bind fun b6 => (if 0 ≤ (wrap64 (a2 - 16)) then (if (wrap64 (a2 - 16)) < (a1.length : Int) then (if 0 ≤ (wrap64 (a2 - 7)) then (if (wrap64 (a2 - 7)) < (a1.length : Int) then ((spec_l1Word.f (IntKind.u64.wrap ((IntKind.u64.wrap ((IntKind.u64.wrap ((rd a1 (wrap64 (a2 - 16))) + (Go.bits .xor .u64 (Go.bits .xor .u64 b7 b8) ((rd a1 (ji21)) / 8)))) + (rd a1 (wrap64 (a2 - 7))))) + (Go.bits .xor .u64 (Go.bits .xor .u64 b5 b6) ((rd a1 (wrap64 (a2 - 2))) / 1024))))).bind fun b0 => (if a1.length < 17592186044416 then (spec_l1Words.l1 k2 (a1 ++ [b0]) (wrap64 (a2 + 1))) else (none))) else (none)) else (none)) else (none)) else (none)))) else (none)) else (none)))) else (none)) else (none)) = some r := by first | (rw [hji21] at H; exact H) | (simp only [hji21] at H ⊢; exact H)
       have hji21w : (IntKind.i64.wrap (a2 - 15)) = ji21 := (i64_w _).trans hji21
       by_cases c22 : 0 ≤ (ji21)
       ·
        rw [if_pos c22] at H
        replace c22 := decide_eq_true c22
        by_cases c23 : (ji21) < (a1.length : Int)
        ·
         rw [if_pos c23] at H
         replace c23 := decide_eq_true c23; obtain ⟨b7, A24, H⟩ := bindA H; (try dsimp only at H); obtain ⟨b8, A25, H⟩ := bindA H; (try dsimp only at H); obtain ⟨ji26, hji26⟩ : ∃ j_ : Int, (wrap64 (a2 - 2)) = j_ := ⟨_, rfl⟩
         replace H : (if 0 ≤ (ji26) then (if (ji26) < (a1.length : Int) then ((spec_l1Turn.f (rd a1 (ji26)) 17).bind fun b5 => ((spec_l1Turn.f (rd a1 (ji26)) 19).bind fun b6 => (if 0 ≤ (wrap64 (a2 - 16)) then (if (wrap64 (a2 - 16)) < (a1.length : Int) then (if 0 ≤ (wrap64 (a2 - 7)) then (if (wrap64 (a2 - 7)) < (a1.length : Int) then ((spec_l1Word.f (IntKind.u64.wrap ((IntKind.u64.wrap ((IntKind.u64.wrap ((rd a1 (wrap64 (a2 - 16))) + (Go.bits .xor .u64 (Go.bits .xor .u64 b7 b8) ((rd a1 (ji21)) / 8)))) + (rd a1 (wrap64 (a2 - 7))))) + (Go.bits .xor .u64 (Go.bits .xor .u64 b5 b6) ((rd a1 (ji26)) / 1024))))).bind fun b0 => (if a1.length < 17592186044416 then (spec_l1Words.l1 k2 (a1 ++ [b0]) (wrap64 (a2 + 1))) else (none))) else (none)) else (none)) else (none)) else (none)))) else (none)) else (none)) = some r := by first | (rw [hji26] at H; exact H) | (simp only [hji26] at H ⊢; exact H)
         (try rw [hji26] at A24)
         (try rw [hji26] at A25)
         have hji26w : (IntKind.i64.wrap (a2 - 2)) = ji26 := (i64_w _).trans hji26
         by_cases c27 : 0 ≤ (ji26)
         ·
          rw [if_pos c27] at H
          replace c27 := decide_eq_true c27
          by_cases c28 : (ji26) < (a1.length : Int)
          ·
           rw [if_pos c28] at H
           replace c28 := decide_eq_true c28; obtain ⟨b5, A29, H⟩ := bindA H; (try dsimp only at H); obtain ⟨b6, A30, H⟩ := bindA H; (try dsimp only at H); obtain ⟨ji31, hji31⟩ : ∃ j_ : Int, (wrap64 (a2 - 16)) = j_ := ⟨_, rfl⟩
           replace H : (if 0 ≤ (ji31) then (if (ji31) < (a1.length : Int) then (if 0 ≤ (wrap64 (a2 - 7)) then (if (wrap64 (a2 - 7)) < (a1.length : Int) then ((spec_l1Word.f (IntKind.u64.wrap ((IntKind.u64.wrap ((IntKind.u64.wrap ((rd a1 (ji31)) + (Go.bits .xor .u64 (Go.bits .xor .u64 b7 b8) ((rd a1 (ji21)) / 8)))) + (rd a1 (wrap64 (a2 - 7))))) + (Go.bits .xor .u64 (Go.bits .xor .u64 b5 b6) ((rd a1 (ji26)) / 1024))))).bind fun b0 => (if a1.length < 17592186044416 then (spec_l1Words.l1 k2 (a1 ++ [b0]) (wrap64 (a2 + 1))) else (none))) else (none)) else (none)) else (none)) else (none)) = some r := by first | (rw [hji31] at H; exact H) | (simp only [hji31] at H ⊢; exact H)
           (try rw [hji31] at A24)
           (try rw [hji31] at A25)
           (try rw [hji31] at A29)
           (try rw [hji31] at A30)
           have hji31w : (IntKind.i64.wrap (a2 - 16)) = ji31 := (i64_w _).trans hji31
           by_cases c32 : 0 ≤ (ji31)
           ·
            rw [if_pos c32] at H
            replace c32 := decide_eq_true c32
            by_cases c33 : (ji31) < (a1.length : Int)
            ·
             rw [if_pos c33] at H
             replace c33 := decide_eq_true c33; obtain ⟨ji34, hji34⟩ : ∃ j_ : Int, (wrap64 (a2 - 7)) = j_ := ⟨_, rfl⟩
             replace H : (if 0 ≤ (ji34) then (if (ji34) < (a1.length : Int) then ((spec_l1Word.f (IntKind.u64.wrap ((IntKind.u64.wrap ((IntKind.u64.wrap ((rd a1 (ji31)) + (Go.bits .xor .u64 (Go.bits .xor .u64 b7 b8) ((rd a1 (ji21)) / 8)))) + (rd a1 (ji34)))) + (Go.bits .xor .u64 (Go.bits .xor .u64 b5 b6) ((rd a1 (ji26)) / 1024))))).bind fun b0 => (if a1.length < 17592186044416 then (spec_l1Words.l1 k2 (a1 ++ [b0]) (wrap64 (a2 + 1))) else (none))) else (none)) else (none)) = some r := by first | (rw [hji34] at H; exact H) | (simp only [hji34] at H ⊢; exact H)
             (try rw [hji34] at A24)
             (try rw [hji34] at A25)
             (try rw [hji34] at A29)
             (try rw [hji34] at A30)
             have hji34w : (IntKind.i64.wrap (a2 - 7)) = ji34 := (i64_w _).trans hji34
             by_cases c35 : 0 ≤ (ji34)
             ·
              rw [if_pos c35] at H
              replace c35 := decide_eq_true c35
              by_cases c36 : (ji34) < (a1.length : Int)
              ·
               rw [if_pos c36] at H
               replace c36 := decide_eq_true c36; obtain ⟨b0, A37, H⟩ := bindA H; (try dsimp only at H)
               by_cases c38 : a1.length < 17592186044416
               ·
                rw [if_pos c38] at H
                have LMc38 := yaa c38; clear c38; obtain ⟨y124, hy124⟩ : ∃ y_ : List Int, y_ = (a1 ++ [b0]) := ⟨_, rfl⟩
                replace H : (spec_l1Words.l1 k2 y124 (wrap64 (a2 + 1))) = some r := by first | (rw [hy124]; with_reducible exact H) | (have H2_ := (Option.bind_some _ _).symm.trans H; rw [hy124]; with_reducible exact H2_) | (have H2_ := (Option.bind_some _ _).symm.trans H; with_reducible exact H2_) | with_reducible exact H | (rw [hy124]; exact H) | exact H
                have Ny124 := yaa hy124; clear hy124; have H' := yaa H; clear H
                try go_wp2
                replace a3 := yaa (Kd.R_drew a3.out); replace HB := yaa (below_drew1 HB.out); obtain ⟨g4, d7, e0⟩ := Kd.R_slice a3.out
                (first | subst e0 | (injection e0 with f1_ f2_ f3_; have f4_ := f1_.symm; have f5_ := f3_.symm; clear f1_ f2_ f3_; subst f4_; subst f5_))
                have p111 : 0 ≤ ((ji21) : Int) := of_decide_eq_true (by assumption); have q111 : (ji21) < (a1.length : Int) := of_decide_eq_true (by assumption); obtain ⟨ad111, e5, b9⟩ := Kd.at_int (Kd.R_reads' a3.out).2.2 (ji21) p111 q111
                cases e5
                replace p111 := eq_true p111; replace q111 := eq_true q111; have p113 : 0 ≤ ((ji21) : Int) := of_decide_eq_true (by assumption); have q113 : (ji21) < (a1.length : Int) := of_decide_eq_true (by assumption); obtain ⟨ad113, e6, c3⟩ := Kd.at_int (Kd.R_reads' a3.out).2.2 (ji21) p113 q113; obtain rfl : ad111 = ad113 := (by injection e6); replace p113 := eq_true p113; replace q113 := eq_true q113; have p115 : 0 ≤ ((ji21) : Int) := of_decide_eq_true (by assumption); have q115 : (ji21) < (a1.length : Int) := of_decide_eq_true (by assumption); obtain ⟨ad115, e7, c5⟩ := Kd.at_int (Kd.R_reads' a3.out).2.2 (ji21) p115 q115; obtain rfl : ad111 = ad115 := (by injection e7); replace p115 := eq_true p115; replace q115 := eq_true q115
                refine start_ (n := 21) (S := fun w' => w'.cell? (ad111.add ((ji21)).toNat) = some (.int .u64 (rd a1 (ji21))) ∧ w'.cell? (ad111.add ((ji21)).toNat) = some (.int .u64 (rd a1 (ji21))) ∧ w'.cell? (ad111.add ((ji21)).toNat) = some (.int .u64 (rd a1 (ji21)))) (ds := []) q29_38 (by kernel_rfl) rfl rfl ⟨b9, c3, c5⟩ (fun hHeld => ?_); refine with_tabW spec_l1Words.tab9 spec_l1Words.bits9 (fun HT_ HW_ => ?_)
                generalize wr.drew = w39 at a3 HB b9 c3 c5 hHeld ⊢
                refine pz_ 0 53 q29_39 HT_ (by kernel_rfl) ?_
                refine pz_ 1 54 q29_40 HT_ (by kernel_rfl) ?_
                refine pz_ 2 55 q29_41 HT_ (by kernel_rfl) ?_
                refine pz_ 3 56 q29_42 HT_ (by kernel_rfl) ?_
                refine pz_ 6 59 q29_43 HT_ (by kernel_rfl) ?_
                refine pz_ 7 60 q29_44 HT_ (by kernel_rfl) ?_
                refine pz_ 8 61 q29_45 HT_ (by kernel_rfl) ?_
                refine pz_ 9 62 q29_46 HT_ (by kernel_rfl) ?_
                refine pz_ 13 66 q29_47 HT_ (by kernel_rfl) ?_
                refine pz_ 14 67 q29_48 HT_ (by kernel_rfl) ?_
                refine pz_ 15 68 q29_49 HT_ (by kernel_rfl) ?_
                refine pz_ 16 69 q29_50 HT_ (by kernel_rfl) ?_
                refine tz_ 4 57 q29_51 HT_ HW_ (by kernel_rfl) hHeld ?_
                refine tz_ 10 63 q29_52 HT_ HW_ (by kernel_rfl) hHeld ?_
                refine tz_ 17 70 q29_53 HT_ HW_ (by kernel_rfl) hHeld ?_
                refine pz_ 18 71 q29_54 HT_ (by kernel_rfl) ?_
                refine one_ (i := 5) (N := some 58) q29_55 rfl rfl (one_of HT_.out (by kernel_rfl)) (by decide) (fun K hK => ?_)
                refine goes_ Tryd.func37 (by kernel_rfl) rfl #[.int .u64 (rd a1 (ji21)), .int .u64 7] (by rfl) rfl rfl (by (try simp only [List.map_toArray, List.map_cons, List.map_nil]); first | done | (simp only [hji21]; rfl) | rfl | (simp only [List.length_drop, List.length_take]; rfl)) ?_
                with_reducible refine (spec_l1Turn.calls (rd a1 (ji21)) 7 b7 _ A24.out).mono ?_
                rintro e w' ⟨rfl, ⟨nd, rfl⟩⟩; refine ⟨_, rfl, ?_⟩
                refine hK.out _ _ ⟨hHeld.1, hHeld.2.1, hHeld.2.2⟩ (fun hHeld => ?_)
                clear hK K
                refine norm_ (a' := ?_) ?_ ?_
                rotate_left
                ·
                 show Act.put _ (some 58) _ = _
                 simp only [Act.put, List.setIfInBounds_toArray, List.set_cons_zero, List.set_cons_succ, i64_w, i32_w]
                 rfl
                refine one_ (i := 11) (N := some 64) q29_56 rfl rfl (one_of HT_.out (by kernel_rfl)) (by decide) (fun K hK => ?_)
                refine goes_ Tryd.func37 (by kernel_rfl) rfl #[.int .u64 (rd a1 (ji21)), .int .u64 18] (by rfl) rfl rfl (by (try simp only [List.map_toArray, List.map_cons, List.map_nil]); first | done | (simp only [hji21]; rfl) | rfl | (simp only [List.length_drop, List.length_take]; rfl)) ?_
                with_reducible refine (spec_l1Turn.calls (rd a1 (ji21)) 18 b8 _ A25.out).mono ?_
                rintro e w' ⟨rfl, ⟨nd, rfl⟩⟩; refine ⟨_, rfl, ?_⟩
                refine hK.out _ _ ⟨hHeld.1, hHeld.2.1, hHeld.2.2⟩ (fun hHeld => ?_)
                clear hK K
                refine norm_ (a' := ?_) ?_ ?_
                rotate_left
                ·
                 show Act.put _ (some 64) _ = _
                 simp only [Act.put, List.setIfInBounds_toArray, List.set_cons_zero, List.set_cons_succ, i64_w, i32_w]
                 rfl
                refine pz_ 12 65 q29_57 HT_ (by kernel_rfl) ?_
                refine pz_ 19 72 q29_58 HT_ (by kernel_rfl) ?_
                refine pz_ 20 6 q29_59 HT_ (by kernel_rfl) ?_
                refine done_ (done_of HT_.out (by kernel_rfl)) ?_
                try go_wp2
                (try (rw [drewN_self w39]; generalize hq_ : World.drewN w39 _ = w39; have n0_ : Aside0 (Kd.R (Kd.int .u64) 40 w39 w.heap.size (fun _ => True) (.slice (some ad111) a1.length d7) a1) := ⟨by rw [← hq_]; exact (upR a3.out)⟩; have n1_ : Aside0 (Below w.heap.size w w39) := ⟨by rw [← hq_]; exact (upH HB.out)⟩; clear a3 HB hq_; have a3 := n0_; have HB := n1_; clear n0_ n1_))
                replace a3 := yaa (Kd.R_drew a3.out); replace HB := yaa (below_drew1 HB.out); have p116 : 0 ≤ ((ji26) : Int) := of_decide_eq_true (by assumption); have q116 : (ji26) < (a1.length : Int) := of_decide_eq_true (by assumption); obtain ⟨ad116, e8, c8⟩ := Kd.at_int (Kd.R_reads' a3.out).2.2 (ji26) p116 q116; obtain rfl : ad111 = ad116 := (by injection e8); replace p116 := eq_true p116; replace q116 := eq_true q116; have p118 : 0 ≤ ((ji26) : Int) := of_decide_eq_true (by assumption); have q118 : (ji26) < (a1.length : Int) := of_decide_eq_true (by assumption); obtain ⟨ad118, e9, d0⟩ := Kd.at_int (Kd.R_reads' a3.out).2.2 (ji26) p118 q118; obtain rfl : ad111 = ad118 := (by injection e9); replace p118 := eq_true p118; replace q118 := eq_true q118; have p120 : 0 ≤ ((ji26) : Int) := of_decide_eq_true (by assumption); have q120 : (ji26) < (a1.length : Int) := of_decide_eq_true (by assumption); obtain ⟨ad120, f0, d1⟩ := Kd.at_int (Kd.R_reads' a3.out).2.2 (ji26) p120 q120; obtain rfl : ad111 = ad120 := (by injection f0); replace p120 := eq_true p120; replace q120 := eq_true q120
                refine start_ (n := 21) (S := fun w' => w'.cell? (ad111.add ((ji26)).toNat) = some (.int .u64 (rd a1 (ji26))) ∧ w'.cell? (ad111.add ((ji26)).toNat) = some (.int .u64 (rd a1 (ji26))) ∧ w'.cell? (ad111.add ((ji26)).toNat) = some (.int .u64 (rd a1 (ji26)))) (ds := []) q29_38 (by kernel_rfl) rfl rfl ⟨c8, d0, d1⟩ (fun hHeld => ?_); refine with_tabW spec_l1Words.tab10 spec_l1Words.bits10 (fun HT_ HW_ => ?_)
                generalize w39.drew = w41 at a3 HB c8 d0 d1 hHeld ⊢
                refine pz_ 0 73 q29_39 HT_ (by kernel_rfl) ?_
                refine pz_ 1 74 q29_40 HT_ (by kernel_rfl) ?_
                refine pz_ 2 75 q29_41 HT_ (by kernel_rfl) ?_
                refine pz_ 3 76 q29_42 HT_ (by kernel_rfl) ?_
                refine pz_ 6 79 q29_43 HT_ (by kernel_rfl) ?_
                refine pz_ 7 80 q29_44 HT_ (by kernel_rfl) ?_
                refine pz_ 8 81 q29_45 HT_ (by kernel_rfl) ?_
                refine pz_ 9 82 q29_46 HT_ (by kernel_rfl) ?_
                refine pz_ 13 86 q29_47 HT_ (by kernel_rfl) ?_
                refine pz_ 14 87 q29_48 HT_ (by kernel_rfl) ?_
                refine pz_ 15 88 q29_49 HT_ (by kernel_rfl) ?_
                refine pz_ 16 89 q29_50 HT_ (by kernel_rfl) ?_
                refine tz_ 4 77 q29_51 HT_ HW_ (by kernel_rfl) hHeld ?_
                refine tz_ 10 83 q29_52 HT_ HW_ (by kernel_rfl) hHeld ?_
                refine tz_ 17 90 q29_53 HT_ HW_ (by kernel_rfl) hHeld ?_
                refine pz_ 18 91 q29_54 HT_ (by kernel_rfl) ?_
                refine one_ (i := 5) (N := some 78) q29_55 rfl rfl (one_of HT_.out (by kernel_rfl)) (by decide) (fun K hK => ?_)
                refine goes_ Tryd.func37 (by kernel_rfl) rfl #[.int .u64 (rd a1 (ji26)), .int .u64 17] (by rfl) rfl rfl (by (try simp only [List.map_toArray, List.map_cons, List.map_nil]); first | done | (simp only [hji26]; rfl) | rfl | (simp only [List.length_drop, List.length_take]; rfl)) ?_
                with_reducible refine (spec_l1Turn.calls (rd a1 (ji26)) 17 b5 _ A29.out).mono ?_
                rintro e w' ⟨rfl, ⟨nd, rfl⟩⟩; refine ⟨_, rfl, ?_⟩
                refine hK.out _ _ ⟨hHeld.1, hHeld.2.1, hHeld.2.2⟩ (fun hHeld => ?_)
                clear hK K
                refine norm_ (a' := ?_) ?_ ?_
                rotate_left
                ·
                 show Act.put _ (some 78) _ = _
                 simp only [Act.put, List.setIfInBounds_toArray, List.set_cons_zero, List.set_cons_succ, i64_w, i32_w]
                 rfl
                refine one_ (i := 11) (N := some 84) q29_56 rfl rfl (one_of HT_.out (by kernel_rfl)) (by decide) (fun K hK => ?_)
                refine goes_ Tryd.func37 (by kernel_rfl) rfl #[.int .u64 (rd a1 (ji26)), .int .u64 19] (by rfl) rfl rfl (by (try simp only [List.map_toArray, List.map_cons, List.map_nil]); first | done | (simp only [hji26]; rfl) | rfl | (simp only [List.length_drop, List.length_take]; rfl)) ?_
                with_reducible refine (spec_l1Turn.calls (rd a1 (ji26)) 19 b6 _ A30.out).mono ?_
                rintro e w' ⟨rfl, ⟨nd, rfl⟩⟩; refine ⟨_, rfl, ?_⟩
                refine hK.out _ _ ⟨hHeld.1, hHeld.2.1, hHeld.2.2⟩ (fun hHeld => ?_)
                clear hK K
                refine norm_ (a' := ?_) ?_ ?_
                rotate_left
                ·
                 show Act.put _ (some 84) _ = _
                 simp only [Act.put, List.setIfInBounds_toArray, List.set_cons_zero, List.set_cons_succ, i64_w, i32_w]
                 rfl
                refine pz_ 12 85 q29_57 HT_ (by kernel_rfl) ?_
                refine pz_ 19 92 q29_58 HT_ (by kernel_rfl) ?_
                refine pz_ 20 7 q29_59 HT_ (by kernel_rfl) ?_
                refine done_ (done_of HT_.out (by kernel_rfl)) ?_
                try go_wp2
                (try (rw [drewN_self w41]; generalize hq_ : World.drewN w41 _ = w41; have n0_ : Aside0 (Kd.R (Kd.int .u64) 40 w41 w.heap.size (fun _ => True) (.slice (some ad111) a1.length d7) a1) := ⟨by rw [← hq_]; exact (upR a3.out)⟩; have n1_ : Aside0 (Below w.heap.size w w41) := ⟨by rw [← hq_]; exact (upH HB.out)⟩; clear a3 HB hq_; have a3 := n0_; have HB := n1_; clear n0_ n1_))
                replace a3 := yaa (Kd.R_drew a3.out); replace HB := yaa (below_drew1 HB.out); have p121 : 0 ≤ ((ji31) : Int) := of_decide_eq_true (by assumption); have q121 : (ji31) < (a1.length : Int) := of_decide_eq_true (by assumption); obtain ⟨ad121, f1, d2⟩ := Kd.at_int (Kd.R_reads' a3.out).2.2 (ji31) p121 q121; obtain rfl : ad111 = ad121 := (by injection f1); replace p121 := eq_true p121; replace q121 := eq_true q121; have p122 : 0 ≤ ((ji34) : Int) := of_decide_eq_true (by assumption); have q122 : (ji34) < (a1.length : Int) := of_decide_eq_true (by assumption); obtain ⟨ad122, f2, d3⟩ := Kd.at_int (Kd.R_reads' a3.out).2.2 (ji34) p122 q122; obtain rfl : ad111 = ad122 := (by injection f2); replace p122 := eq_true p122; replace q122 := eq_true q122
                refine start_ (n := 20) (S := fun w' => w'.cell? (ad111.add ((ji31)).toNat) = some (.int .u64 (rd a1 (ji31))) ∧ w'.cell? (ad111.add ((ji34)).toNat) = some (.int .u64 (rd a1 (ji34)))) (ds := [17, 18]) q29_60 (by kernel_rfl) rfl rfl ⟨d2, d3⟩ (fun hHeld => ?_); refine with_tabW spec_l1Words.tab11 spec_l1Words.bits11 (fun HT_ HW_ => ?_)
                generalize w41.drew = w42 at a3 HB d2 d3 hHeld ⊢
                refine pz_ 0 93 q29_61 HT_ (by kernel_rfl) ?_
                refine pz_ 1 94 q29_62 HT_ (by kernel_rfl) ?_
                refine pz_ 2 95 q29_63 HT_ (by kernel_rfl) ?_
                refine pz_ 3 96 q29_64 HT_ (by kernel_rfl) ?_
                refine pz_ 4 97 q29_65 HT_ (by kernel_rfl) ?_
                refine pz_ 6 99 q29_66 HT_ (by kernel_rfl) ?_
                refine pz_ 8 101 q29_67 HT_ (by kernel_rfl) ?_
                refine pz_ 9 102 q29_68 HT_ (by kernel_rfl) ?_
                refine pz_ 10 103 q29_69 HT_ (by kernel_rfl) ?_
                refine pz_ 11 104 q29_70 HT_ (by kernel_rfl) ?_
                refine pz_ 14 107 q29_71 HT_ (by kernel_rfl) ?_
                refine tz_ 5 98 q29_72 HT_ HW_ (by kernel_rfl) hHeld ?_
                refine pz_ 7 100 q29_73 HT_ (by kernel_rfl) ?_
                refine tz_ 12 105 q29_74 HT_ HW_ (by kernel_rfl) hHeld ?_
                refine pz_ 13 106 q29_75 HT_ (by kernel_rfl) ?_
                refine pz_ 15 108 q29_76 HT_ (by kernel_rfl) ?_
                refine one_ (i := 16) (N := some 109) q29_77 rfl rfl (one_of HT_.out (by kernel_rfl)) (by decide) (fun K hK => ?_)
                refine goes_ Tryd.func31 (by kernel_rfl) rfl #[.int .u64 (IntKind.u64.wrap ((IntKind.u64.wrap ((IntKind.u64.wrap ((rd a1 (ji31)) + (Go.bits .xor .u64 (Go.bits .xor .u64 b7 b8) ((rd a1 (ji21)) / 8)))) + (rd a1 (ji34)))) + (Go.bits .xor .u64 (Go.bits .xor .u64 b5 b6) ((rd a1 (ji26)) / 1024))))] (by rfl) rfl rfl (by (try simp only [List.map_toArray, List.map_cons, List.map_nil]); first | done | (simp only [hji21, hji26, hji31, hji34]; rfl) | rfl | (simp only [List.length_drop, List.length_take]; rfl)) ?_
                with_reducible refine (spec_l1Word.calls (IntKind.u64.wrap ((IntKind.u64.wrap ((IntKind.u64.wrap ((rd a1 (ji31)) + (Go.bits .xor .u64 (Go.bits .xor .u64 b7 b8) ((rd a1 (ji21)) / 8)))) + (rd a1 (ji34)))) + (Go.bits .xor .u64 (Go.bits .xor .u64 b5 b6) ((rd a1 (ji26)) / 1024)))) b0 _ A37.out).mono ?_
                rintro e w' ⟨rfl, ⟨nd, rfl⟩⟩; refine ⟨_, rfl, ?_⟩
                refine hK.out _ _ ⟨hHeld.1, hHeld.2⟩ (fun hHeld => ?_)
                clear hK K
                refine norm_ (a' := ?_) ?_ ?_
                rotate_left
                ·
                 show Act.put _ (some 109) _ = _
                 simp only [Act.put, List.setIfInBounds_toArray, List.set_cons_zero, List.set_cons_succ, i64_w, i32_w]
                 rfl
                refine last_ (i := 17) (N := some 110) q29_78 rfl rfl (one_of HT_.out (by kernel_rfl)) (by decide) (fun K hK => ?_)
                refine value_ (w1 := ?_) (v := ?_) (by rfl) rfl ?_ ?_
                rotate_left 2
                ·
                 go_simp
                 constructor
                 ·
                  rfl
                 ·
                  rfl
                refine hK.out _ _ ?_
                clear hK K
                refine norm_ (a' := ?_) ?_ ?_
                rotate_left
                ·
                 show Act.put _ (some 110) _ = _
                 simp only [Act.put, List.setIfInBounds_toArray, List.set_cons_zero, List.set_cons_succ, i64_w, i32_w]
                 rfl
                refine last_ (i := 18) (N := some 111) q29_79 rfl rfl (one_of HT_.out (by kernel_rfl)) (by decide) (fun K hK => ?_)
                refine Kd.R_append_step (Kd.int .u64) (w0 := w) w.heap.size (by rfl) (.tmp 93) (.tmp 110) 38 40 (.int .u64 0) 8 rfl Tryd.underlying38 info40 rfl (by decide) (by omega) (.slice (some ad111) a1.length d7) a1 b0 [.int .u64 b0] (fun _ => True) (fun _ => False) rfl rfl ?aP (fun _ hk => hk.elim) ?aF ?aO ?aB ?aS ?aL ?_
                (case aP => exact rfl)
                (case aB => exact (upH HB.out))
                (case aF => exact (fun _ _ => trivial))
                (case aO => exact (upR a3.out))
                (case aS => exact (below_size (upH HB.out)))
                (case aL => have := LMc38.out; omega)
                intro g5 w43 ho hb hg hat
                rw [← Ny124.out] at ho
                replace HB := yaa (hb); have d6 := yaa (ho); clear a3; clear ho hb hg hat
                refine hK.out _ _ ?_
                clear hK K
                refine norm_ (a' := ?_) ?_ ?_
                rotate_left
                ·
                 show Act.put _ (some 111) _ = _
                 simp only [Act.put, List.setIfInBounds_toArray, List.set_cons_zero, List.set_cons_succ, i64_w, i32_w]
                 rfl
                refine pz_ 19 3 q29_80 HT_ (by kernel_rfl) ?_
                refine done_ (done_of HT_.out (by kernel_rfl)) ?_
                try go_wp2
                go_roundg k2
                case measure => have := HK1.out; have := HK2.out; omega
                case rel => exact ⟨(y124), (wrap64 (a2 + 1)), (by first | rfl | (simp; done) | (simp [*]; done)), H', ⟨by have := HK1.out; have := HK2.out; omega⟩, ⟨by first | exact d6.out | exact upR d6.out⟩, ⟨upH HB.out⟩⟩
               ·
                rw [if_neg c38] at H
                exact absurd H (by simp)
              ·
               rw [if_neg c36] at H
               exact absurd H (by simp)
             ·
              rw [if_neg c35] at H
              exact absurd H (by simp)
            ·
             rw [if_neg c33] at H
             exact absurd H (by simp)
           ·
            rw [if_neg c32] at H
            exact absurd H (by simp)
          ·
           rw [if_neg c28] at H
           exact absurd H (by simp)
         ·
          rw [if_neg c27] at H
          exact absurd H (by simp)
        ·
         rw [if_neg c23] at H
         exact absurd H (by simp)
       ·
        rw [if_neg c22] at H
        exact absurd H (by simp)
      ·
       rw [if_neg c20] at H
       have d9 : decide (a2 < 64) = false := decide_eq_false c20; clear c20; obtain rfl := Option.some.inj H
       go_wp2
       go_ret
       exact ⟨_, by first | rfl | (simp [*, errW_none, errW_some] <;> rfl), by first | exact a3.out | exact upR a3.out, upH HB.out⟩
end
section
open Go.Proofs.YtfinaphomgdmlaaDoorW.PrintWords.Kd renaming at_int → yaa

abbrev q30_0 : Array Bool := Array.replicate 15 false
abbrev q30_1 : Array Bool := bl_ 15 1
abbrev q30_2 : Array Bool := bl_ 15 3
abbrev q30_3 : Array Bool := bl_ 15 19
abbrev q30_4 : Array Bool := bl_ 15 51
abbrev q30_5 : Array Bool := bl_ 15 563
abbrev q30_6 : Array Bool := bl_ 15 1587
abbrev q30_7 : Array Bool := bl_ 15 1591
abbrev q30_8 : Array Bool := bl_ 15 1655
abbrev q30_9 : Array Bool := bl_ 15 3703
abbrev q30_10 : Array Bool := bl_ 15 3711
abbrev q30_11 : Array Bool := bl_ 15 3839
abbrev q30_12 : Array Bool := bl_ 15 4095
abbrev q30_13 : Array Bool := bl_ 15 8191
abbrev q30_14 : Array Bool := bl_ 15 16383
abbrev q30_15 : Array Bool := bl_ 15 32767
abbrev q30_16 : Array Bool := Array.replicate 17 false
abbrev q30_17 : Array Bool := bl_ 17 1
abbrev q30_18 : Array Bool := bl_ 17 3
abbrev q30_19 : Array Bool := bl_ 17 11
abbrev q30_20 : Array Bool := bl_ 17 27
abbrev q30_21 : Array Bool := bl_ 17 155
abbrev q30_22 : Array Bool := bl_ 17 411
abbrev q30_23 : Array Bool := bl_ 17 2459
abbrev q30_24 : Array Bool := bl_ 17 6555
abbrev q30_25 : Array Bool := bl_ 17 6559
abbrev q30_26 : Array Bool := bl_ 17 6591
abbrev q30_27 : Array Bool := bl_ 17 6655
abbrev q30_28 : Array Bool := bl_ 17 7167
abbrev q30_29 : Array Bool := bl_ 17 8191
abbrev q30_30 : Array Bool := bl_ 17 16383
abbrev q30_31 : Array Bool := bl_ 17 32767
abbrev q30_32 : Array Bool := bl_ 17 65535
abbrev q30_33 : Array Bool := bl_ 17 131071
abbrev q30_34 : Array Bool := Array.replicate 24 false
abbrev q30_35 : Array Bool := bl_ 24 1
abbrev q30_36 : Array Bool := bl_ 24 3
abbrev q30_37 : Array Bool := bl_ 24 11
abbrev q30_38 : Array Bool := bl_ 24 27
abbrev q30_39 : Array Bool := bl_ 24 155
abbrev q30_40 : Array Bool := bl_ 24 411
abbrev q30_41 : Array Bool := bl_ 24 1435
abbrev q30_42 : Array Bool := bl_ 24 3483
abbrev q30_43 : Array Bool := bl_ 24 36251
abbrev q30_44 : Array Bool := bl_ 24 101787
abbrev q30_45 : Array Bool := bl_ 24 363931
abbrev q30_46 : Array Bool := bl_ 24 888219
abbrev q30_47 : Array Bool := bl_ 24 888223
abbrev q30_48 : Array Bool := bl_ 24 888255
abbrev q30_49 : Array Bool := bl_ 24 888319
abbrev q30_50 : Array Bool := bl_ 24 888831
abbrev q30_51 : Array Bool := bl_ 24 892927
abbrev q30_52 : Array Bool := bl_ 24 901119
abbrev q30_53 : Array Bool := bl_ 24 917503
abbrev q30_54 : Array Bool := bl_ 24 1048575
abbrev q30_55 : Array Bool := bl_ 24 2097151
abbrev q30_56 : Array Bool := bl_ 24 4194303
abbrev q30_57 : Array Bool := bl_ 24 8388607
abbrev q30_58 : Array Bool := bl_ 24 16777215
abbrev q30_59 : Array Bool := Array.replicate 30 false
abbrev q30_60 : Array Bool := bl_ 30 1
abbrev q30_61 : Array Bool := bl_ 30 3
abbrev q30_62 : Array Bool := bl_ 30 7
abbrev q30_63 : Array Bool := bl_ 30 23
abbrev q30_64 : Array Bool := bl_ 30 55
abbrev q30_65 : Array Bool := bl_ 30 183
abbrev q30_66 : Array Bool := bl_ 30 439
abbrev q30_67 : Array Bool := bl_ 30 1463
abbrev q30_68 : Array Bool := bl_ 30 3511
abbrev q30_69 : Array Bool := bl_ 30 11703
abbrev q30_70 : Array Bool := bl_ 30 28087
abbrev q30_71 : Array Bool := bl_ 30 93623
abbrev q30_72 : Array Bool := bl_ 30 617911
abbrev q30_73 : Array Bool := bl_ 30 1666487
abbrev q30_74 : Array Bool := bl_ 30 5860791
abbrev q30_75 : Array Bool := bl_ 30 14249399
abbrev q30_76 : Array Bool := bl_ 30 47803831
abbrev q30_77 : Array Bool := bl_ 30 114912695
abbrev q30_78 : Array Bool := bl_ 30 114912759
abbrev q30_79 : Array Bool := bl_ 30 114913271
abbrev q30_80 : Array Bool := bl_ 30 114917367
abbrev q30_81 : Array Bool := bl_ 30 114950135
abbrev q30_82 : Array Bool := bl_ 30 115081207
abbrev q30_83 : Array Bool := bl_ 30 117178359
abbrev q30_84 : Array Bool := bl_ 30 133955575
abbrev q30_85 : Array Bool := bl_ 30 268173303
abbrev q30_86 : Array Bool := bl_ 30 268173311
abbrev q30_87 : Array Bool := bl_ 30 268435455
abbrev q30_88 : Array Bool := bl_ 30 536870911
abbrev q30_89 : Array Bool := bl_ 30 1073741823
def spec_l1Step.f (l0 : List Int) (a1 : Int) (a2 : Int) : Option (List Int) := if 4 < (l0.length : Int) then ((spec_l1Turn.f (rd l0 4) 6).bind fun t102 => ((spec_l1Turn.f (rd l0 4) 11).bind fun t104 => ((spec_l1Turn.f (rd l0 4) 25).bind fun t106 => (if 5 < (l0.length : Int) then (if 6 < (l0.length : Int) then (if 7 < (l0.length : Int) then ((spec_l1Word.f (IntKind.u64.wrap ((IntKind.u64.wrap ((IntKind.u64.wrap ((IntKind.u64.wrap ((rd l0 7) + (Go.bits .xor .u64 (Go.bits .xor .u64 t102 t104) t106))) + (Go.bits .xor .u64 (Go.bits .and .u64 (rd l0 4) (rd l0 5)) (Go.bits .and .u64 (Go.bits .xor .u64 4294967295 (rd l0 4)) (rd l0 6))))) + a1)) + a2))).bind fun t112 => (if 0 < (l0.length : Int) then ((spec_l1Turn.f (rd l0 0) 2).bind fun t114 => ((spec_l1Turn.f (rd l0 0) 13).bind fun t116 => ((spec_l1Turn.f (rd l0 0) 22).bind fun t118 => (if 1 < (l0.length : Int) then (if 2 < (l0.length : Int) then ((spec_l1Word.f (IntKind.u64.wrap ((Go.bits .xor .u64 (Go.bits .xor .u64 t114 t116) t118) + (Go.bits .xor .u64 (Go.bits .xor .u64 (Go.bits .and .u64 (rd l0 0) (rd l0 1)) (Go.bits .and .u64 (rd l0 0) (rd l0 2))) (Go.bits .and .u64 (rd l0 1) (rd l0 2)))))).bind fun t125 => ((spec_l1Word.f (IntKind.u64.wrap (t112 + t125))).bind fun t126 => (if 3 < (l0.length : Int) then ((spec_l1Word.f (IntKind.u64.wrap ((rd l0 3) + t112))).bind fun t131 => (some (([t126, rd l0 0, rd l0 1, rd l0 2, t131, rd l0 4, rd l0 5, rd l0 6] : List Int)))) else (none)))) else (none)) else (none))))) else (none))) else (none)) else (none)) else (none))))) else (none)
def spec_l1Step.T1 : Bool × List (List Nat × List Nat) := (true, [([], []), ([0], [0]), ([1], [1]), ([2], [2]), ([], []), ([4], [4]), ([5], [5]), ([6, 3], [6]), ([3, 7], [3, 7]), ([], []), ([9], [9]), ([10], [10]), ([11, 7], [11]), ([8, 12], [8, 12]), ([13, 12, 0, 1, 2, 3, 4, 5, 6, 7, 8, 9, 10, 11, 12, 13], [13])])
def spec_l1Step.B1 : List Nat := [0, 1, 3, 7, 0, 16, 48, 127, 255, 0, 512, 1536, 3839, 8191, 16383]
theorem spec_l1Step.tab1 : rtab .any (opsOf Tryd.f30 1) = spec_l1Step.T1 := by kernel_rfl
theorem spec_l1Step.bits1 : waitsOk spec_l1Step.T1.2 spec_l1Step.B1 = true := by kernel_rfl
def spec_l1Step.T2 : Bool × List (List Nat × List Nat) := (true, [([], []), ([0], [0]), ([1], [1]), ([], []), ([3], [3]), ([4], [4]), ([2, 5], [2, 5]), ([], []), ([7], [7]), ([8], [8]), ([9], [9]), ([], []), ([11], [11]), ([12], [12]), ([10, 13], [10, 13]), ([6, 14], [6, 14]), ([15, 0, 1, 2, 3, 4, 5, 6, 7, 8, 9, 10, 11, 12, 13, 14, 15], [15])])
def spec_l1Step.B2 : List Nat := [0, 1, 3, 0, 8, 24, 63, 0, 128, 384, 896, 0, 2048, 6144, 16256, 32767, 65535]
theorem spec_l1Step.tab2 : rtab .any (opsOf Tryd.f30 2) = spec_l1Step.T2 := by kernel_rfl
theorem spec_l1Step.bits2 : waitsOk spec_l1Step.T2.2 spec_l1Step.B2 = true := by kernel_rfl
def spec_l1Step.T4 : Bool × List (List Nat × List Nat) := (true, [([], []), ([0], [0]), ([1], [1]), ([2], [2]), ([], []), ([4], [4]), ([5], [5]), ([6, 3], [6]), ([3, 7], [3, 7]), ([], []), ([9], [9]), ([10], [10]), ([11, 7], [11]), ([8, 12], [8, 12]), ([13, 12, 0, 1, 2, 3, 4, 5, 6, 7, 8, 9, 10, 11, 12, 13], [13])])
def spec_l1Step.B4 : List Nat := [0, 1, 3, 7, 0, 16, 48, 127, 255, 0, 512, 1536, 3839, 8191, 16383]
theorem spec_l1Step.tab4 : rtab .any (opsOf Tryd.f30 4) = spec_l1Step.T4 := by kernel_rfl
theorem spec_l1Step.bits4 : waitsOk spec_l1Step.T4.2 spec_l1Step.B4 = true := by kernel_rfl
def spec_l1Step.T5 : Bool × List (List Nat × List Nat) := (true, [([], []), ([0], [0]), ([1], [1]), ([], []), ([3], [3]), ([4], [4]), ([2, 5], [2, 5]), ([], []), ([7], [7]), ([8], [8]), ([], []), ([10], [10]), ([11], [11]), ([9, 12], [9, 12]), ([6, 13], [6, 13]), ([], []), ([15], [15]), ([16], [16]), ([], []), ([18], [18]), ([19], [19]), ([17, 20], [17, 20]), ([14, 21], [14, 21]), ([22, 0, 1, 2, 3, 4, 5, 6, 7, 8, 9, 10, 11, 12, 13, 14, 15, 16, 17, 18, 19, 20, 21, 22], [22])])
def spec_l1Step.B5 : List Nat := [0, 1, 3, 0, 8, 24, 63, 0, 128, 384, 0, 1024, 3072, 8064, 16383, 0, 32768, 98304, 0, 262144, 786432, 2064384, 4194303, 8388607]
theorem spec_l1Step.tab5 : rtab .any (opsOf Tryd.f30 5) = spec_l1Step.T5 := by kernel_rfl
theorem spec_l1Step.bits5 : waitsOk spec_l1Step.T5.2 spec_l1Step.B5 = true := by kernel_rfl
def spec_l1Step.T7 : Bool × List (List Nat × List Nat) := (true, [([], []), ([], []), ([0, 1], [0, 1]), ([2], [2]), ([], []), ([4], [4]), ([5], [5]), ([], []), ([7], [7]), ([8], [8]), ([], []), ([10], [10]), ([11], [11]), ([], []), ([13], [13]), ([14], [14]), ([], []), ([15, 16], [15, 16]), ([17, 3], [17]), ([], []), ([19], [19]), ([20], [20]), ([], []), ([22], [22]), ([23], [23]), ([], []), ([25], [25]), ([26], [26]), ([3, 6, 9, 12, 18, 21, 24, 27], [3, 6, 9, 12, 18, 21, 24, 27]), ([28, 18, 0, 1, 2, 3, 4, 5, 6, 7, 8, 9, 10, 11, 12, 13, 14, 15, 16, 17, 18, 19, 20, 21, 22, 23, 24, 25, 26, 27, 28], [28])])
def spec_l1Step.B7 : List Nat := [0, 0, 3, 7, 0, 16, 48, 0, 128, 384, 0, 1024, 3072, 0, 8192, 24576, 0, 122880, 253967, 0, 524288, 1572864, 0, 4194304, 12582912, 0, 33554432, 100663296, 268435455, 536870911]
theorem spec_l1Step.tab7 : rtab .any (opsOf Tryd.f30 7) = spec_l1Step.T7 := by kernel_rfl
theorem spec_l1Step.bits7 : waitsOk spec_l1Step.T7.2 spec_l1Step.B7 = true := by kernel_rfl
set_option maxHeartbeats 8000000 in
set_option maxRecDepth 100000 in
theorem spec_l1Step.calls (A0 : Option Addr) (c0 : Nat) (l0 : List Int) (a1 : Int) (a2 : Int) (r : List Int) (w : World) (hr0 : Kd.C (Kd.int .u64) w A0 l0.length l0) (hc0 : l0.length ≤ c0) (h : spec_l1Step.f l0 a1 a2 = some r) :
  Calls Tryd.prog 30 #[.slice A0 l0.length c0, .int .u64 a1, .int .u64 a2] w fun e w' => ∃ v0_ : Value, e = .returned (v0_) ∧ Kd.R (Kd.int .u64) 40 w' w.heap.size (fun _ => True) v0_ r ∧ Below w.heap.size w w' := by
 have HR0 := Aside0.mk hr0; have HC0 := Aside0.mk hc0; clear hr0 hc0; have HB := Aside0.mk (Below.refl w.heap.size w); have H : (if 4 < (l0.length : Int) then ((spec_l1Turn.f (rd l0 4) 6).bind fun f6 => ((spec_l1Turn.f (rd l0 4) 11).bind fun f7 => ((spec_l1Turn.f (rd l0 4) 25).bind fun f8 => (if 5 < (l0.length : Int) then (if 6 < (l0.length : Int) then (if 7 < (l0.length : Int) then ((spec_l1Word.f (IntKind.u64.wrap ((IntKind.u64.wrap ((IntKind.u64.wrap ((IntKind.u64.wrap ((rd l0 7) + (Go.bits .xor .u64 (Go.bits .xor .u64 f6 f7) f8))) + (Go.bits .xor .u64 (Go.bits .and .u64 (rd l0 4) (rd l0 5)) (Go.bits .and .u64 (Go.bits .xor .u64 4294967295 (rd l0 4)) (rd l0 6))))) + a1)) + a2))).bind fun f3 => (if 0 < (l0.length : Int) then ((spec_l1Turn.f (rd l0 0) 2).bind fun f9 => ((spec_l1Turn.f (rd l0 0) 13).bind fun g0 => ((spec_l1Turn.f (rd l0 0) 22).bind fun g1 => (if 1 < (l0.length : Int) then (if 2 < (l0.length : Int) then ((spec_l1Word.f (IntKind.u64.wrap ((Go.bits .xor .u64 (Go.bits .xor .u64 f9 g0) g1) + (Go.bits .xor .u64 (Go.bits .xor .u64 (Go.bits .and .u64 (rd l0 0) (rd l0 1)) (Go.bits .and .u64 (rd l0 0) (rd l0 2))) (Go.bits .and .u64 (rd l0 1) (rd l0 2)))))).bind fun g2 => ((spec_l1Word.f (IntKind.u64.wrap (f3 + g2))).bind fun f4 => (if 3 < (l0.length : Int) then ((spec_l1Word.f (IntKind.u64.wrap ((rd l0 3) + f3))).bind fun f5 => (some (([f4, rd l0 0, rd l0 1, rd l0 2, f5, rd l0 4, rd l0 5, rd l0 6] : List Int)))) else (none)))) else (none)) else (none))))) else (none))) else (none)) else (none)) else (none))))) else (none)) = some r := h; clear h
 by_cases c4 : 4 < (l0.length : Int)
 ·
  rw [if_pos c4] at H
  have j9 : decide (4 < (l0.length : Int)) = true := decide_eq_true c4; have k0 : decide (4 < l0.length) = true := decide_eq_true (by omega); clear c4; obtain ⟨f6, A5, H⟩ := bindA H; (try dsimp only at H); obtain ⟨f7, A6, H⟩ := bindA H; (try dsimp only at H); obtain ⟨f8, A7, H⟩ := bindA H; (try dsimp only at H)
  by_cases c8 : 5 < (l0.length : Int)
  ·
   rw [if_pos c8] at H
   have k1 : decide (5 < (l0.length : Int)) = true := decide_eq_true c8; have k2 : decide (5 < l0.length) = true := decide_eq_true (by omega); clear c8
   by_cases c9 : 6 < (l0.length : Int)
   ·
    rw [if_pos c9] at H
    have k3 : decide (6 < (l0.length : Int)) = true := decide_eq_true c9; have k4 : decide (6 < l0.length) = true := decide_eq_true (by omega); clear c9
    by_cases c10 : 7 < (l0.length : Int)
    ·
     rw [if_pos c10] at H
     have i9 : decide (7 < (l0.length : Int)) = true := decide_eq_true c10; have j0 : decide (7 < l0.length) = true := decide_eq_true (by omega); clear c10; obtain ⟨f3, A11, H⟩ := bindA H; (try dsimp only at H)
     by_cases c12 : 0 < (l0.length : Int)
     ·
      rw [if_pos c12] at H
      have j1 : decide (0 < (l0.length : Int)) = true := decide_eq_true c12; have j2 : decide (0 < l0.length) = true := decide_eq_true (by omega); clear c12; obtain ⟨f9, A13, H⟩ := bindA H; (try dsimp only at H); obtain ⟨g0, A14, H⟩ := bindA H; (try dsimp only at H); obtain ⟨g1, A15, H⟩ := bindA H; (try dsimp only at H)
      by_cases c16 : 1 < (l0.length : Int)
      ·
       rw [if_pos c16] at H
       have j3 : decide (1 < (l0.length : Int)) = true := decide_eq_true c16; have j4 : decide (1 < l0.length) = true := decide_eq_true (by omega); clear c16
       by_cases c17 : 2 < (l0.length : Int)
       ·
        rw [if_pos c17] at H
        have j5 : decide (2 < (l0.length : Int)) = true := decide_eq_true c17; have j6 : decide (2 < l0.length) = true := decide_eq_true (by omega); clear c17; obtain ⟨g2, A18, H⟩ := bindA H; (try dsimp only at H); obtain ⟨f4, A19, H⟩ := bindA H; (try dsimp only at H)
        by_cases c20 : 3 < (l0.length : Int)
        ·
         rw [if_pos c20] at H
         have j7 : decide (3 < (l0.length : Int)) = true := decide_eq_true c20; have j8 : decide (3 < l0.length) = true := decide_eq_true (by omega); clear c20; obtain ⟨f5, A21, H⟩ := bindA H; (try dsimp only at H); obtain ⟨y135, hy135⟩ : ∃ y_ : List Int, y_ = (([f4, rd l0 0, rd l0 1, rd l0 2, f5, rd l0 4, rd l0 5, rd l0 6] : List Int)) := ⟨_, rfl⟩
         replace H : (some y135) = some r := by first | (rw [hy135]; with_reducible exact H) | (have H2_ := (Option.bind_some _ _).symm.trans H; rw [hy135]; with_reducible exact H2_) | (have H2_ := (Option.bind_some _ _).symm.trans H; with_reducible exact H2_) | with_reducible exact H | (rw [hy135]; exact H) | exact H
         have Ny135 := Aside0.mk hy135; clear hy135; obtain rfl := Option.some.inj H
         go_enter Tryd.func30, Tryd.ntmps30
         try go_wp2
         replace HB := Aside0.mk (below_drew1 HB.out); have p101 : 0 ≤ (4 : Int) := (by omega); have q101 : 4 < (l0.length : Int) := of_decide_eq_true (by assumption); obtain ⟨ad101, g5, b5⟩ := yaa HR0.out 4 p101 q101; have a0 := b5
         (try rw [show ((4 : Int)).toNat = 4 from rfl] at a0)
         (try rw [show 4 * 1 = 4 from rfl] at a0)
         (try simp only [Nat.reduceMul, Nat.reduceEqDiff, Go.Addr.add, ↓reduceIte] at a0)
         cases g5
         (try simp only [show (4 : Int).toNat = 4 from rfl, Nat.reduceMul, Nat.reduceEqDiff, Go.Addr.add, ↓reduceIte] at b5)
         have qi101 : (4 < l0.length) = True := eq_true (by omega)
         (try rw [show ((4 : Int)).toNat = 4 from rfl] at b5)
         replace b5 := (upc_ HB.out b5 :); replace p101 := eq_true p101; replace q101 := eq_true q101; have p103 : 0 ≤ (4 : Int) := (by omega); have q103 : 4 < (l0.length : Int) := of_decide_eq_true (by assumption); obtain ⟨ad103, g6, b6⟩ := yaa HR0.out 4 p103 q103; have a3 := b6
         (try rw [show ((4 : Int)).toNat = 4 from rfl] at a3)
         (try rw [show 4 * 1 = 4 from rfl] at a3)
         (try simp only [Nat.reduceMul, Nat.reduceEqDiff, Go.Addr.add, ↓reduceIte] at a3)
         obtain rfl : ad101 = ad103 := (by injection g6)
         (try simp only [show (4 : Int).toNat = 4 from rfl, Nat.reduceMul, Nat.reduceEqDiff, Go.Addr.add, ↓reduceIte] at b6)
         have qi103 : (4 < l0.length) = True := eq_true (by omega)
         (try rw [show ((4 : Int)).toNat = 4 from rfl] at b6)
         replace b6 := (upc_ HB.out b6 :); replace p103 := eq_true p103; replace q103 := eq_true q103; have p105 : 0 ≤ (4 : Int) := (by omega); have q105 : 4 < (l0.length : Int) := of_decide_eq_true (by assumption); obtain ⟨ad105, g7, b7⟩ := yaa HR0.out 4 p105 q105; have a4 := b7
         (try rw [show ((4 : Int)).toNat = 4 from rfl] at a4)
         (try rw [show 4 * 1 = 4 from rfl] at a4)
         (try simp only [Nat.reduceMul, Nat.reduceEqDiff, Go.Addr.add, ↓reduceIte] at a4)
         obtain rfl : ad101 = ad105 := (by injection g7)
         (try simp only [show (4 : Int).toNat = 4 from rfl, Nat.reduceMul, Nat.reduceEqDiff, Go.Addr.add, ↓reduceIte] at b7)
         have qi105 : (4 < l0.length) = True := eq_true (by omega)
         (try rw [show ((4 : Int)).toNat = 4 from rfl] at b7)
         replace b7 := (upc_ HB.out b7 :); replace p105 := eq_true p105; replace q105 := eq_true q105
         refine start_ (n := 15) (S := fun w' => w'.cell? ⟨ad101.block, ad101.off + 4, none⟩ = some (.int .u64 (rd l0 4)) ∧ w'.cell? ⟨ad101.block, ad101.off + 4, none⟩ = some (.int .u64 (rd l0 4)) ∧ w'.cell? ⟨ad101.block, ad101.off + 4, none⟩ = some (.int .u64 (rd l0 4))) (ds := []) q30_0 (by kernel_rfl) rfl rfl ⟨(upc_ HB.out a0 :), (upc_ HB.out a3 :), (upc_ HB.out a4 :)⟩ (fun hHeld => ?_); refine with_tabW spec_l1Step.tab1 spec_l1Step.bits1 (fun HT_ HW_ => ?_)
         generalize w.drew = w22 at HB b5 b6 b7 hHeld ⊢
         refine pz_ 0 13 q30_1 HT_ (by kernel_rfl) ?_
         refine pz_ 1 14 q30_2 HT_ (by kernel_rfl) ?_
         refine pz_ 4 17 q30_3 HT_ (by kernel_rfl) ?_
         refine pz_ 5 18 q30_4 HT_ (by kernel_rfl) ?_
         refine pz_ 9 22 q30_5 HT_ (by kernel_rfl) ?_
         refine pz_ 10 23 q30_6 HT_ (by kernel_rfl) ?_
         refine tz_ 2 15 q30_7 HT_ HW_ (by kernel_rfl) hHeld ?_
         refine tz_ 6 19 q30_8 HT_ HW_ (by kernel_rfl) hHeld ?_
         refine tz_ 11 24 q30_9 HT_ HW_ (by kernel_rfl) hHeld ?_
         refine one_ (i := 3) (N := some 16) q30_10 rfl rfl (one_of HT_.out (by kernel_rfl)) (by decide) (fun K hK => ?_)
         refine goes_ Tryd.func37 (by kernel_rfl) rfl #[.int .u64 (rd l0 4), .int .u64 6] (by rfl) rfl rfl (by (try simp only [List.map_toArray, List.map_cons, List.map_nil]); first | done | rfl | (simp only [List.length_drop, List.length_take]; rfl)) ?_
         with_reducible refine (spec_l1Turn.calls (rd l0 4) 6 f6 _ A5.out).mono ?_
         rintro e w' ⟨rfl, ⟨nd, rfl⟩⟩; refine ⟨_, rfl, ?_⟩
         refine hK.out _ _ ⟨(upc_ HB.out a0 :), (upc_ HB.out a3 :), (upc_ HB.out a4 :)⟩ (fun hHeld => ?_)
         clear hK K
         refine norm_ (a' := ?_) ?_ ?_
         rotate_left
         ·
          show Act.put _ (some 16) _ = _
          simp only [Act.put, List.setIfInBounds_toArray, List.set_cons_zero, List.set_cons_succ, i64_w, i32_w]
          rfl
         refine one_ (i := 7) (N := some 20) q30_11 rfl rfl (one_of HT_.out (by kernel_rfl)) (by decide) (fun K hK => ?_)
         refine goes_ Tryd.func37 (by kernel_rfl) rfl #[.int .u64 (rd l0 4), .int .u64 11] (by rfl) rfl rfl (by (try simp only [List.map_toArray, List.map_cons, List.map_nil]); first | done | rfl | (simp only [List.length_drop, List.length_take]; rfl)) ?_
         with_reducible refine (spec_l1Turn.calls (rd l0 4) 11 f7 _ A6.out).mono ?_
         rintro e w' ⟨rfl, ⟨nd, rfl⟩⟩; refine ⟨_, rfl, ?_⟩
         refine hK.out _ _ ⟨(upc_ HB.out a0 :), (upc_ HB.out a3 :), (upc_ HB.out a4 :)⟩ (fun hHeld => ?_)
         clear hK K
         refine norm_ (a' := ?_) ?_ ?_
         rotate_left
         ·
          show Act.put _ (some 20) _ = _
          simp only [Act.put, List.setIfInBounds_toArray, List.set_cons_zero, List.set_cons_succ, i64_w, i32_w]
          rfl
         refine pz_ 8 21 q30_12 HT_ (by kernel_rfl) ?_
         refine one_ (i := 12) (N := some 25) q30_13 rfl rfl (one_of HT_.out (by kernel_rfl)) (by decide) (fun K hK => ?_)
         refine goes_ Tryd.func37 (by kernel_rfl) rfl #[.int .u64 (rd l0 4), .int .u64 25] (by rfl) rfl rfl (by (try simp only [List.map_toArray, List.map_cons, List.map_nil]); first | done | rfl | (simp only [List.length_drop, List.length_take]; rfl)) ?_
         with_reducible refine (spec_l1Turn.calls (rd l0 4) 25 f8 _ A7.out).mono ?_
         rintro e w' ⟨rfl, ⟨nd, rfl⟩⟩; refine ⟨_, rfl, ?_⟩
         refine hK.out _ _ ⟨(upc_ HB.out a0 :), (upc_ HB.out a3 :), (upc_ HB.out a4 :)⟩ (fun hHeld => ?_)
         clear hK K
         refine norm_ (a' := ?_) ?_ ?_
         rotate_left
         ·
          show Act.put _ (some 25) _ = _
          simp only [Act.put, List.setIfInBounds_toArray, List.set_cons_zero, List.set_cons_succ, i64_w, i32_w]
          rfl
         refine pz_ 13 26 q30_14 HT_ (by kernel_rfl) ?_
         refine pz_ 14 7 q30_15 HT_ (by kernel_rfl) ?_
         refine done_ (done_of HT_.out (by kernel_rfl)) ?_
         try go_wp2
         (try (rw [drewN_self w22]; generalize hq_ : World.drewN w22 _ = w22; have n0_ : Aside0 (Below w.heap.size w w22) := ⟨by rw [← hq_]; exact (upH HB.out)⟩; clear HB hq_; have HB := n0_; clear n0_))
         replace HB := Aside0.mk (below_drew1 HB.out); have p107 : 0 ≤ (4 : Int) := (by omega); have q107 : 4 < (l0.length : Int) := of_decide_eq_true (by assumption); obtain ⟨ad107, g8, b8⟩ := yaa HR0.out 4 p107 q107; have e2 := b8
         (try rw [show ((4 : Int)).toNat = 4 from rfl] at e2)
         (try rw [show 4 * 1 = 4 from rfl] at e2)
         (try simp only [Nat.reduceMul, Nat.reduceEqDiff, Go.Addr.add, ↓reduceIte] at e2)
         obtain rfl : ad101 = ad107 := (by injection g8)
         (try simp only [show (4 : Int).toNat = 4 from rfl, Nat.reduceMul, Nat.reduceEqDiff, Go.Addr.add, ↓reduceIte] at b8)
         have qi107 : (4 < l0.length) = True := eq_true (by omega)
         (try rw [show ((4 : Int)).toNat = 4 from rfl] at b8)
         replace b8 := (upc_ HB.out b8 :); replace p107 := eq_true p107; replace q107 := eq_true q107; have p108 : 0 ≤ (5 : Int) := (by omega); have q108 : 5 < (l0.length : Int) := of_decide_eq_true (by assumption); obtain ⟨ad108, g9, b9⟩ := yaa HR0.out 5 p108 q108; have e3 := b9
         (try rw [show ((5 : Int)).toNat = 5 from rfl] at e3)
         (try rw [show 5 * 1 = 5 from rfl] at e3)
         (try simp only [Nat.reduceMul, Nat.reduceEqDiff, Go.Addr.add, ↓reduceIte] at e3)
         obtain rfl : ad101 = ad108 := (by injection g9)
         (try simp only [show (5 : Int).toNat = 5 from rfl, Nat.reduceMul, Nat.reduceEqDiff, Go.Addr.add, ↓reduceIte] at b9)
         have qi108 : (5 < l0.length) = True := eq_true (by omega)
         (try rw [show ((5 : Int)).toNat = 5 from rfl] at b9)
         replace b9 := (upc_ HB.out b9 :); replace p108 := eq_true p108; replace q108 := eq_true q108; have p109 : 0 ≤ (4 : Int) := (by omega); have q109 : 4 < (l0.length : Int) := of_decide_eq_true (by assumption); obtain ⟨ad109, h0, c1⟩ := yaa HR0.out 4 p109 q109; have e4 := c1
         (try rw [show ((4 : Int)).toNat = 4 from rfl] at e4)
         (try rw [show 4 * 1 = 4 from rfl] at e4)
         (try simp only [Nat.reduceMul, Nat.reduceEqDiff, Go.Addr.add, ↓reduceIte] at e4)
         obtain rfl : ad101 = ad109 := (by injection h0)
         (try simp only [show (4 : Int).toNat = 4 from rfl, Nat.reduceMul, Nat.reduceEqDiff, Go.Addr.add, ↓reduceIte] at c1)
         have qi109 : (4 < l0.length) = True := eq_true (by omega)
         (try rw [show ((4 : Int)).toNat = 4 from rfl] at c1)
         replace c1 := (upc_ HB.out c1 :); replace p109 := eq_true p109; replace q109 := eq_true q109; have p110 : 0 ≤ (6 : Int) := (by omega); have q110 : 6 < (l0.length : Int) := of_decide_eq_true (by assumption); obtain ⟨ad110, h1, c2⟩ := yaa HR0.out 6 p110 q110; have e5 := c2
         (try rw [show ((6 : Int)).toNat = 6 from rfl] at e5)
         (try rw [show 6 * 1 = 6 from rfl] at e5)
         (try simp only [Nat.reduceMul, Nat.reduceEqDiff, Go.Addr.add, ↓reduceIte] at e5)
         obtain rfl : ad101 = ad110 := (by injection h1)
         (try simp only [show (6 : Int).toNat = 6 from rfl, Nat.reduceMul, Nat.reduceEqDiff, Go.Addr.add, ↓reduceIte] at c2)
         have qi110 : (6 < l0.length) = True := eq_true (by omega)
         (try rw [show ((6 : Int)).toNat = 6 from rfl] at c2)
         replace c2 := (upc_ HB.out c2 :); replace p110 := eq_true p110; replace q110 := eq_true q110
         refine start_ (n := 17) (S := fun w' => w'.cell? ⟨ad101.block, ad101.off + 4, none⟩ = some (.int .u64 (rd l0 4)) ∧ w'.cell? ⟨ad101.block, ad101.off + 5, none⟩ = some (.int .u64 (rd l0 5)) ∧ w'.cell? ⟨ad101.block, ad101.off + 4, none⟩ = some (.int .u64 (rd l0 4)) ∧ w'.cell? ⟨ad101.block, ad101.off + 6, none⟩ = some (.int .u64 (rd l0 6))) (ds := []) q30_16 (by kernel_rfl) rfl rfl ⟨(upc_ HB.out e2 :), (upc_ HB.out e3 :), (upc_ HB.out e4 :), (upc_ HB.out e5 :)⟩ (fun hHeld => ?_); refine with_tabW spec_l1Step.tab2 spec_l1Step.bits2 (fun HT_ HW_ => ?_)
         generalize w22.drew = w23 at HB b8 b9 c1 c2 hHeld ⊢
         refine pz_ 0 27 q30_17 HT_ (by kernel_rfl) ?_
         refine pz_ 1 28 q30_18 HT_ (by kernel_rfl) ?_
         refine pz_ 3 30 q30_19 HT_ (by kernel_rfl) ?_
         refine pz_ 4 31 q30_20 HT_ (by kernel_rfl) ?_
         refine pz_ 7 34 q30_21 HT_ (by kernel_rfl) ?_
         refine pz_ 8 35 q30_22 HT_ (by kernel_rfl) ?_
         refine pz_ 11 38 q30_23 HT_ (by kernel_rfl) ?_
         refine pz_ 12 39 q30_24 HT_ (by kernel_rfl) ?_
         refine tz_ 2 29 q30_25 HT_ HW_ (by kernel_rfl) hHeld ?_
         refine tz_ 5 32 q30_26 HT_ HW_ (by kernel_rfl) hHeld ?_
         refine pz_ 6 33 q30_27 HT_ (by kernel_rfl) ?_
         refine tz_ 9 36 q30_28 HT_ HW_ (by kernel_rfl) hHeld ?_
         refine pz_ 10 37 q30_29 HT_ (by kernel_rfl) ?_
         refine tz_ 13 40 q30_30 HT_ HW_ (by kernel_rfl) hHeld ?_
         refine pz_ 14 41 q30_31 HT_ (by kernel_rfl) ?_
         refine pz_ 15 42 q30_32 HT_ (by kernel_rfl) ?_
         refine pz_ 16 8 q30_33 HT_ (by kernel_rfl) ?_
         refine done_ (done_of HT_.out (by kernel_rfl)) ?_
         have p111 : 0 ≤ (7 : Int) := (by omega); have q111 : 7 < (l0.length : Int) := of_decide_eq_true (by assumption); obtain ⟨ad111, h2, e6⟩ := yaa HR0.out 7 p111 q111; obtain rfl : ad101 = ad111 := (by injection h2)
         (try simp only [show (7 : Int).toNat = 7 from rfl, Nat.reduceMul, Nat.reduceEqDiff, Go.Addr.add, ↓reduceIte] at e6)
         have qi111 : (7 < l0.length) = True := eq_true (by omega)
         (try rw [show ((7 : Int)).toNat = 7 from rfl] at e6)
         replace e6 := (upc_ HB.out e6 :); replace p111 := eq_true p111; replace q111 := eq_true q111
         try go_wp2_with (first | ((with_reducible refine gc_ 31 rfl ?_); refine gl_ (some 54) rfl Tryd.func31 #[.int .u64 (IntKind.u64.wrap ((IntKind.u64.wrap ((IntKind.u64.wrap ((IntKind.u64.wrap ((rd l0 7) + (Go.bits .xor .u64 (Go.bits .xor .u64 f6 f7) f8))) + (Go.bits .xor .u64 (Go.bits .and .u64 (rd l0 4) (rd l0 5)) (Go.bits .and .u64 (Go.bits .xor .u64 4294967295 (rd l0 4)) (rd l0 6))))) + a1)) + a2))] ?_; (with_reducible refine (spec_l1Word.calls (IntKind.u64.wrap ((IntKind.u64.wrap ((IntKind.u64.wrap ((IntKind.u64.wrap ((rd l0 7) + (Go.bits .xor .u64 (Go.bits .xor .u64 f6 f7) f8))) + (Go.bits .xor .u64 (Go.bits .and .u64 (rd l0 4) (rd l0 5)) (Go.bits .and .u64 (Go.bits .xor .u64 4294967295 (rd l0 4)) (rd l0 6))))) + a1)) + a2)) f3 _ A11.out).mono ?_); rintro e w' ⟨rfl, ⟨nd, rfl⟩⟩; refine ⟨_, rfl, ?_⟩))
         (try (rw [drewN_self w23]; generalize hq_ : World.drewN w23 _ = w23; have n0_ : Aside0 (Below w.heap.size w w23) := ⟨by rw [← hq_]; exact (upH HB.out)⟩; clear HB hq_; have HB := n0_; clear n0_))
         replace HB := Aside0.mk (below_drew1 HB.out); have p113 : 0 ≤ (0 : Int) := (by omega); have q113 : 0 < (l0.length : Int) := of_decide_eq_true (by assumption); obtain ⟨ad113, h3, c3⟩ := yaa HR0.out 0 p113 q113; have a5 := c3
         (try rw [show ((0 : Int)).toNat = 0 from rfl] at a5)
         (try rw [show 0 * 1 = 0 from rfl] at a5)
         (try rw [Addr.add_zero'] at a5)
         obtain rfl : ad101 = ad113 := (by injection h3); have qi113 : (0 < l0.length) = True := eq_true (by omega)
         (try rw [show ((0 : Int)).toNat = 0 from rfl] at c3)
         (try rw [Addr.add_zero'] at c3)
         replace c3 := (upc_ HB.out c3 :); replace p113 := eq_true p113; replace q113 := eq_true q113; have p115 : 0 ≤ (0 : Int) := (by omega); have q115 : 0 < (l0.length : Int) := of_decide_eq_true (by assumption); obtain ⟨ad115, h4, c5⟩ := yaa HR0.out 0 p115 q115; have a6 := c5
         (try rw [show ((0 : Int)).toNat = 0 from rfl] at a6)
         (try rw [show 0 * 1 = 0 from rfl] at a6)
         (try rw [Addr.add_zero'] at a6)
         obtain rfl : ad101 = ad115 := (by injection h4); have qi115 : (0 < l0.length) = True := eq_true (by omega)
         (try rw [show ((0 : Int)).toNat = 0 from rfl] at c5)
         (try rw [Addr.add_zero'] at c5)
         replace c5 := (upc_ HB.out c5 :); replace p115 := eq_true p115; replace q115 := eq_true q115; have p117 : 0 ≤ (0 : Int) := (by omega); have q117 : 0 < (l0.length : Int) := of_decide_eq_true (by assumption); obtain ⟨ad117, h5, c6⟩ := yaa HR0.out 0 p117 q117; have a7 := c6
         (try rw [show ((0 : Int)).toNat = 0 from rfl] at a7)
         (try rw [show 0 * 1 = 0 from rfl] at a7)
         (try rw [Addr.add_zero'] at a7)
         obtain rfl : ad101 = ad117 := (by injection h5); have qi117 : (0 < l0.length) = True := eq_true (by omega)
         (try rw [show ((0 : Int)).toNat = 0 from rfl] at c6)
         (try rw [Addr.add_zero'] at c6)
         replace c6 := (upc_ HB.out c6 :); replace p117 := eq_true p117; replace q117 := eq_true q117
         refine start_ (n := 15) (S := fun w' => w'.cell? ad101 = some (.int .u64 (rd l0 0)) ∧ w'.cell? ad101 = some (.int .u64 (rd l0 0)) ∧ w'.cell? ad101 = some (.int .u64 (rd l0 0))) (ds := []) q30_0 (by kernel_rfl) rfl rfl ⟨(upc_ HB.out a5 :), (upc_ HB.out a6 :), (upc_ HB.out a7 :)⟩ (fun hHeld => ?_); refine with_tabW spec_l1Step.tab4 spec_l1Step.bits4 (fun HT_ HW_ => ?_)
         generalize w23.drew = w24 at HB c3 c5 c6 hHeld ⊢
         refine pz_ 0 55 q30_1 HT_ (by kernel_rfl) ?_
         refine pz_ 1 56 q30_2 HT_ (by kernel_rfl) ?_
         refine pz_ 4 59 q30_3 HT_ (by kernel_rfl) ?_
         refine pz_ 5 60 q30_4 HT_ (by kernel_rfl) ?_
         refine pz_ 9 64 q30_5 HT_ (by kernel_rfl) ?_
         refine pz_ 10 65 q30_6 HT_ (by kernel_rfl) ?_
         refine tz_ 2 57 q30_7 HT_ HW_ (by kernel_rfl) hHeld ?_
         refine tz_ 6 61 q30_8 HT_ HW_ (by kernel_rfl) hHeld ?_
         refine tz_ 11 66 q30_9 HT_ HW_ (by kernel_rfl) hHeld ?_
         refine one_ (i := 3) (N := some 58) q30_10 rfl rfl (one_of HT_.out (by kernel_rfl)) (by decide) (fun K hK => ?_)
         refine goes_ Tryd.func37 (by kernel_rfl) rfl #[.int .u64 (rd l0 0), .int .u64 2] (by rfl) rfl rfl (by (try simp only [List.map_toArray, List.map_cons, List.map_nil]); first | done | rfl | (simp only [List.length_drop, List.length_take]; rfl)) ?_
         with_reducible refine (spec_l1Turn.calls (rd l0 0) 2 f9 _ A13.out).mono ?_
         rintro e w' ⟨rfl, ⟨nd, rfl⟩⟩; refine ⟨_, rfl, ?_⟩
         refine hK.out _ _ ⟨(upc_ HB.out a5 :), (upc_ HB.out a6 :), (upc_ HB.out a7 :)⟩ (fun hHeld => ?_)
         clear hK K
         refine norm_ (a' := ?_) ?_ ?_
         rotate_left
         ·
          show Act.put _ (some 58) _ = _
          simp only [Act.put, List.setIfInBounds_toArray, List.set_cons_zero, List.set_cons_succ, i64_w, i32_w]
          rfl
         refine one_ (i := 7) (N := some 62) q30_11 rfl rfl (one_of HT_.out (by kernel_rfl)) (by decide) (fun K hK => ?_)
         refine goes_ Tryd.func37 (by kernel_rfl) rfl #[.int .u64 (rd l0 0), .int .u64 13] (by rfl) rfl rfl (by (try simp only [List.map_toArray, List.map_cons, List.map_nil]); first | done | rfl | (simp only [List.length_drop, List.length_take]; rfl)) ?_
         with_reducible refine (spec_l1Turn.calls (rd l0 0) 13 g0 _ A14.out).mono ?_
         rintro e w' ⟨rfl, ⟨nd, rfl⟩⟩; refine ⟨_, rfl, ?_⟩
         refine hK.out _ _ ⟨(upc_ HB.out a5 :), (upc_ HB.out a6 :), (upc_ HB.out a7 :)⟩ (fun hHeld => ?_)
         clear hK K
         refine norm_ (a' := ?_) ?_ ?_
         rotate_left
         ·
          show Act.put _ (some 62) _ = _
          simp only [Act.put, List.setIfInBounds_toArray, List.set_cons_zero, List.set_cons_succ, i64_w, i32_w]
          rfl
         refine pz_ 8 63 q30_12 HT_ (by kernel_rfl) ?_
         refine one_ (i := 12) (N := some 67) q30_13 rfl rfl (one_of HT_.out (by kernel_rfl)) (by decide) (fun K hK => ?_)
         refine goes_ Tryd.func37 (by kernel_rfl) rfl #[.int .u64 (rd l0 0), .int .u64 22] (by rfl) rfl rfl (by (try simp only [List.map_toArray, List.map_cons, List.map_nil]); first | done | rfl | (simp only [List.length_drop, List.length_take]; rfl)) ?_
         with_reducible refine (spec_l1Turn.calls (rd l0 0) 22 g1 _ A15.out).mono ?_
         rintro e w' ⟨rfl, ⟨nd, rfl⟩⟩; refine ⟨_, rfl, ?_⟩
         refine hK.out _ _ ⟨(upc_ HB.out a5 :), (upc_ HB.out a6 :), (upc_ HB.out a7 :)⟩ (fun hHeld => ?_)
         clear hK K
         refine norm_ (a' := ?_) ?_ ?_
         rotate_left
         ·
          show Act.put _ (some 67) _ = _
          simp only [Act.put, List.setIfInBounds_toArray, List.set_cons_zero, List.set_cons_succ, i64_w, i32_w]
          rfl
         refine pz_ 13 68 q30_14 HT_ (by kernel_rfl) ?_
         refine pz_ 14 10 q30_15 HT_ (by kernel_rfl) ?_
         refine done_ (done_of HT_.out (by kernel_rfl)) ?_
         try go_wp2
         (try (rw [drewN_self w24]; generalize hq_ : World.drewN w24 _ = w24; have n0_ : Aside0 (Below w.heap.size w w24) := ⟨by rw [← hq_]; exact (upH HB.out)⟩; clear HB hq_; have HB := n0_; clear n0_))
         replace HB := Aside0.mk (below_drew1 HB.out); have p119 : 0 ≤ (0 : Int) := (by omega); have q119 : 0 < (l0.length : Int) := of_decide_eq_true (by assumption); obtain ⟨ad119, h6, c7⟩ := yaa HR0.out 0 p119 q119; have e7 := c7
         (try rw [show ((0 : Int)).toNat = 0 from rfl] at e7)
         (try rw [show 0 * 1 = 0 from rfl] at e7)
         (try rw [Addr.add_zero'] at e7)
         obtain rfl : ad101 = ad119 := (by injection h6); have qi119 : (0 < l0.length) = True := eq_true (by omega)
         (try rw [show ((0 : Int)).toNat = 0 from rfl] at c7)
         (try rw [Addr.add_zero'] at c7)
         replace c7 := (upc_ HB.out c7 :); replace p119 := eq_true p119; replace q119 := eq_true q119; have p120 : 0 ≤ (1 : Int) := (by omega); have q120 : 1 < (l0.length : Int) := of_decide_eq_true (by assumption); obtain ⟨ad120, h7, d0⟩ := yaa HR0.out 1 p120 q120; have e8 := d0
         (try rw [show ((1 : Int)).toNat = 1 from rfl] at e8)
         (try rw [show 1 * 1 = 1 from rfl] at e8)
         (try simp only [Nat.reduceMul, Nat.reduceEqDiff, Go.Addr.add, ↓reduceIte] at e8)
         obtain rfl : ad101 = ad120 := (by injection h7)
         (try simp only [show (1 : Int).toNat = 1 from rfl, Nat.reduceMul, Nat.reduceEqDiff, Go.Addr.add, ↓reduceIte] at d0)
         have qi120 : (1 < l0.length) = True := eq_true (by omega)
         (try rw [show ((1 : Int)).toNat = 1 from rfl] at d0)
         replace d0 := (upc_ HB.out d0 :); replace p120 := eq_true p120; replace q120 := eq_true q120; have p121 : 0 ≤ (0 : Int) := (by omega); have q121 : 0 < (l0.length : Int) := of_decide_eq_true (by assumption); obtain ⟨ad121, h8, d1⟩ := yaa HR0.out 0 p121 q121; have e9 := d1
         (try rw [show ((0 : Int)).toNat = 0 from rfl] at e9)
         (try rw [show 0 * 1 = 0 from rfl] at e9)
         (try rw [Addr.add_zero'] at e9)
         obtain rfl : ad101 = ad121 := (by injection h8); have qi121 : (0 < l0.length) = True := eq_true (by omega)
         (try rw [show ((0 : Int)).toNat = 0 from rfl] at d1)
         (try rw [Addr.add_zero'] at d1)
         replace d1 := (upc_ HB.out d1 :); replace p121 := eq_true p121; replace q121 := eq_true q121; have p122 : 0 ≤ (2 : Int) := (by omega); have q122 : 2 < (l0.length : Int) := of_decide_eq_true (by assumption); obtain ⟨ad122, h9, d2⟩ := yaa HR0.out 2 p122 q122; have f0 := d2
         (try rw [show ((2 : Int)).toNat = 2 from rfl] at f0)
         (try rw [show 2 * 1 = 2 from rfl] at f0)
         (try simp only [Nat.reduceMul, Nat.reduceEqDiff, Go.Addr.add, ↓reduceIte] at f0)
         obtain rfl : ad101 = ad122 := (by injection h9)
         (try simp only [show (2 : Int).toNat = 2 from rfl, Nat.reduceMul, Nat.reduceEqDiff, Go.Addr.add, ↓reduceIte] at d2)
         have qi122 : (2 < l0.length) = True := eq_true (by omega)
         (try rw [show ((2 : Int)).toNat = 2 from rfl] at d2)
         replace d2 := (upc_ HB.out d2 :); replace p122 := eq_true p122; replace q122 := eq_true q122; have p123 : 0 ≤ (1 : Int) := (by omega); have q123 : 1 < (l0.length : Int) := of_decide_eq_true (by assumption); obtain ⟨ad123, i0, d3⟩ := yaa HR0.out 1 p123 q123; have f1 := d3
         (try rw [show ((1 : Int)).toNat = 1 from rfl] at f1)
         (try rw [show 1 * 1 = 1 from rfl] at f1)
         (try simp only [Nat.reduceMul, Nat.reduceEqDiff, Go.Addr.add, ↓reduceIte] at f1)
         obtain rfl : ad101 = ad123 := (by injection i0)
         (try simp only [show (1 : Int).toNat = 1 from rfl, Nat.reduceMul, Nat.reduceEqDiff, Go.Addr.add, ↓reduceIte] at d3)
         have qi123 : (1 < l0.length) = True := eq_true (by omega)
         (try rw [show ((1 : Int)).toNat = 1 from rfl] at d3)
         replace d3 := (upc_ HB.out d3 :); replace p123 := eq_true p123; replace q123 := eq_true q123; have p124 : 0 ≤ (2 : Int) := (by omega); have q124 : 2 < (l0.length : Int) := of_decide_eq_true (by assumption); obtain ⟨ad124, i1, d4⟩ := yaa HR0.out 2 p124 q124; have f2 := d4
         (try rw [show ((2 : Int)).toNat = 2 from rfl] at f2)
         (try rw [show 2 * 1 = 2 from rfl] at f2)
         (try simp only [Nat.reduceMul, Nat.reduceEqDiff, Go.Addr.add, ↓reduceIte] at f2)
         obtain rfl : ad101 = ad124 := (by injection i1)
         (try simp only [show (2 : Int).toNat = 2 from rfl, Nat.reduceMul, Nat.reduceEqDiff, Go.Addr.add, ↓reduceIte] at d4)
         have qi124 : (2 < l0.length) = True := eq_true (by omega)
         (try rw [show ((2 : Int)).toNat = 2 from rfl] at d4)
         replace d4 := (upc_ HB.out d4 :); replace p124 := eq_true p124; replace q124 := eq_true q124
         refine start_ (n := 24) (S := fun w' => w'.cell? ad101 = some (.int .u64 (rd l0 0)) ∧ w'.cell? ⟨ad101.block, ad101.off + 1, none⟩ = some (.int .u64 (rd l0 1)) ∧ w'.cell? ad101 = some (.int .u64 (rd l0 0)) ∧ w'.cell? ⟨ad101.block, ad101.off + 2, none⟩ = some (.int .u64 (rd l0 2)) ∧ w'.cell? ⟨ad101.block, ad101.off + 1, none⟩ = some (.int .u64 (rd l0 1)) ∧ w'.cell? ⟨ad101.block, ad101.off + 2, none⟩ = some (.int .u64 (rd l0 2))) (ds := []) q30_34 (by kernel_rfl) rfl rfl ⟨(upc_ HB.out e7 :), (upc_ HB.out e8 :), (upc_ HB.out e9 :), (upc_ HB.out f0 :), (upc_ HB.out f1 :), (upc_ HB.out f2 :)⟩ (fun hHeld => ?_); refine with_tabW spec_l1Step.tab5 spec_l1Step.bits5 (fun HT_ HW_ => ?_)
         generalize w24.drew = w25 at HB c7 d0 d1 d2 d3 d4 hHeld ⊢
         refine pz_ 0 69 q30_35 HT_ (by kernel_rfl) ?_
         refine pz_ 1 70 q30_36 HT_ (by kernel_rfl) ?_
         refine pz_ 3 72 q30_37 HT_ (by kernel_rfl) ?_
         refine pz_ 4 73 q30_38 HT_ (by kernel_rfl) ?_
         refine pz_ 7 76 q30_39 HT_ (by kernel_rfl) ?_
         refine pz_ 8 77 q30_40 HT_ (by kernel_rfl) ?_
         refine pz_ 10 79 q30_41 HT_ (by kernel_rfl) ?_
         refine pz_ 11 80 q30_42 HT_ (by kernel_rfl) ?_
         refine pz_ 15 84 q30_43 HT_ (by kernel_rfl) ?_
         refine pz_ 16 85 q30_44 HT_ (by kernel_rfl) ?_
         refine pz_ 18 87 q30_45 HT_ (by kernel_rfl) ?_
         refine pz_ 19 88 q30_46 HT_ (by kernel_rfl) ?_
         refine tz_ 2 71 q30_47 HT_ HW_ (by kernel_rfl) hHeld ?_
         refine tz_ 5 74 q30_48 HT_ HW_ (by kernel_rfl) hHeld ?_
         refine pz_ 6 75 q30_49 HT_ (by kernel_rfl) ?_
         refine tz_ 9 78 q30_50 HT_ HW_ (by kernel_rfl) hHeld ?_
         refine tz_ 12 81 q30_51 HT_ HW_ (by kernel_rfl) hHeld ?_
         refine pz_ 13 82 q30_52 HT_ (by kernel_rfl) ?_
         refine pz_ 14 83 q30_53 HT_ (by kernel_rfl) ?_
         refine tz_ 17 86 q30_54 HT_ HW_ (by kernel_rfl) hHeld ?_
         refine tz_ 20 89 q30_55 HT_ HW_ (by kernel_rfl) hHeld ?_
         refine pz_ 21 90 q30_56 HT_ (by kernel_rfl) ?_
         refine pz_ 22 91 q30_57 HT_ (by kernel_rfl) ?_
         refine pz_ 23 11 q30_58 HT_ (by kernel_rfl) ?_
         refine done_ (done_of HT_.out (by kernel_rfl)) ?_
         try go_wp2_with (first | ((with_reducible refine gc_ 31 rfl ?_); refine gl_ (some 95) rfl Tryd.func31 #[.int .u64 (IntKind.u64.wrap ((Go.bits .xor .u64 (Go.bits .xor .u64 f9 g0) g1) + (Go.bits .xor .u64 (Go.bits .xor .u64 (Go.bits .and .u64 (rd l0 0) (rd l0 1)) (Go.bits .and .u64 (rd l0 0) (rd l0 2))) (Go.bits .and .u64 (rd l0 1) (rd l0 2)))))] ?_; (with_reducible refine (spec_l1Word.calls (IntKind.u64.wrap ((Go.bits .xor .u64 (Go.bits .xor .u64 f9 g0) g1) + (Go.bits .xor .u64 (Go.bits .xor .u64 (Go.bits .and .u64 (rd l0 0) (rd l0 1)) (Go.bits .and .u64 (rd l0 0) (rd l0 2))) (Go.bits .and .u64 (rd l0 1) (rd l0 2))))) g2 _ A18.out).mono ?_); rintro e w' ⟨rfl, ⟨nd, rfl⟩⟩; refine ⟨_, rfl, ?_⟩))
         (try (rw [drewN_self w25]; generalize hq_ : World.drewN w25 _ = w25; have n0_ : Aside0 (Below w.heap.size w w25) := ⟨by rw [← hq_]; exact (upH HB.out)⟩; clear HB hq_; have HB := n0_; clear n0_))
         replace HB := Aside0.mk (below_drew1 HB.out); have p127 : 0 ≤ (0 : Int) := (by omega); have q127 : 0 < (l0.length : Int) := of_decide_eq_true (by assumption); obtain ⟨ad127, i2, d5⟩ := yaa HR0.out 0 p127 q127; have a8 := d5
         (try rw [show ((0 : Int)).toNat = 0 from rfl] at a8)
         (try rw [show 0 * 1 = 0 from rfl] at a8)
         (try rw [Addr.add_zero'] at a8)
         obtain rfl : ad101 = ad127 := (by injection i2); have qi127 : (0 < l0.length) = True := eq_true (by omega)
         (try rw [show ((0 : Int)).toNat = 0 from rfl] at d5)
         (try rw [Addr.add_zero'] at d5)
         replace d5 := (upc_ HB.out d5 :); replace p127 := eq_true p127; replace q127 := eq_true q127; have p128 : 0 ≤ (1 : Int) := (by omega); have q128 : 1 < (l0.length : Int) := of_decide_eq_true (by assumption); obtain ⟨ad128, i3, d6⟩ := yaa HR0.out 1 p128 q128; have a9 := d6
         (try rw [show ((1 : Int)).toNat = 1 from rfl] at a9)
         (try rw [show 1 * 1 = 1 from rfl] at a9)
         (try simp only [Nat.reduceMul, Nat.reduceEqDiff, Go.Addr.add, ↓reduceIte] at a9)
         obtain rfl : ad101 = ad128 := (by injection i3)
         (try simp only [show (1 : Int).toNat = 1 from rfl, Nat.reduceMul, Nat.reduceEqDiff, Go.Addr.add, ↓reduceIte] at d6)
         have qi128 : (1 < l0.length) = True := eq_true (by omega)
         (try rw [show ((1 : Int)).toNat = 1 from rfl] at d6)
         replace d6 := (upc_ HB.out d6 :); replace p128 := eq_true p128; replace q128 := eq_true q128; have p129 : 0 ≤ (2 : Int) := (by omega); have q129 : 2 < (l0.length : Int) := of_decide_eq_true (by assumption); obtain ⟨ad129, i4, d7⟩ := yaa HR0.out 2 p129 q129; have b0 := d7
         (try rw [show ((2 : Int)).toNat = 2 from rfl] at b0)
         (try rw [show 2 * 1 = 2 from rfl] at b0)
         (try simp only [Nat.reduceMul, Nat.reduceEqDiff, Go.Addr.add, ↓reduceIte] at b0)
         obtain rfl : ad101 = ad129 := (by injection i4)
         (try simp only [show (2 : Int).toNat = 2 from rfl, Nat.reduceMul, Nat.reduceEqDiff, Go.Addr.add, ↓reduceIte] at d7)
         have qi129 : (2 < l0.length) = True := eq_true (by omega)
         (try rw [show ((2 : Int)).toNat = 2 from rfl] at d7)
         replace d7 := (upc_ HB.out d7 :); replace p129 := eq_true p129; replace q129 := eq_true q129; have p130 : 0 ≤ (3 : Int) := (by omega); have q130 : 3 < (l0.length : Int) := of_decide_eq_true (by assumption); obtain ⟨ad130, i5, d8⟩ := yaa HR0.out 3 p130 q130; have b1 := d8
         (try rw [show ((3 : Int)).toNat = 3 from rfl] at b1)
         (try rw [show 3 * 1 = 3 from rfl] at b1)
         (try simp only [Nat.reduceMul, Nat.reduceEqDiff, Go.Addr.add, ↓reduceIte] at b1)
         obtain rfl : ad101 = ad130 := (by injection i5)
         (try simp only [show (3 : Int).toNat = 3 from rfl, Nat.reduceMul, Nat.reduceEqDiff, Go.Addr.add, ↓reduceIte] at d8)
         have qi130 : (3 < l0.length) = True := eq_true (by omega)
         (try rw [show ((3 : Int)).toNat = 3 from rfl] at d8)
         replace d8 := (upc_ HB.out d8 :); replace p130 := eq_true p130; replace q130 := eq_true q130; have p132 : 0 ≤ (4 : Int) := (by omega); have q132 : 4 < (l0.length : Int) := of_decide_eq_true (by assumption); obtain ⟨ad132, i6, d9⟩ := yaa HR0.out 4 p132 q132; have b2 := d9
         (try rw [show ((4 : Int)).toNat = 4 from rfl] at b2)
         (try rw [show 4 * 1 = 4 from rfl] at b2)
         (try simp only [Nat.reduceMul, Nat.reduceEqDiff, Go.Addr.add, ↓reduceIte] at b2)
         obtain rfl : ad101 = ad132 := (by injection i6)
         (try simp only [show (4 : Int).toNat = 4 from rfl, Nat.reduceMul, Nat.reduceEqDiff, Go.Addr.add, ↓reduceIte] at d9)
         have qi132 : (4 < l0.length) = True := eq_true (by omega)
         (try rw [show ((4 : Int)).toNat = 4 from rfl] at d9)
         replace d9 := (upc_ HB.out d9 :); replace p132 := eq_true p132; replace q132 := eq_true q132; have p133 : 0 ≤ (5 : Int) := (by omega); have q133 : 5 < (l0.length : Int) := of_decide_eq_true (by assumption); obtain ⟨ad133, i7, e0⟩ := yaa HR0.out 5 p133 q133; have b3 := e0
         (try rw [show ((5 : Int)).toNat = 5 from rfl] at b3)
         (try rw [show 5 * 1 = 5 from rfl] at b3)
         (try simp only [Nat.reduceMul, Nat.reduceEqDiff, Go.Addr.add, ↓reduceIte] at b3)
         obtain rfl : ad101 = ad133 := (by injection i7)
         (try simp only [show (5 : Int).toNat = 5 from rfl, Nat.reduceMul, Nat.reduceEqDiff, Go.Addr.add, ↓reduceIte] at e0)
         have qi133 : (5 < l0.length) = True := eq_true (by omega)
         (try rw [show ((5 : Int)).toNat = 5 from rfl] at e0)
         replace e0 := (upc_ HB.out e0 :); replace p133 := eq_true p133; replace q133 := eq_true q133; have p134 : 0 ≤ (6 : Int) := (by omega); have q134 : 6 < (l0.length : Int) := of_decide_eq_true (by assumption); obtain ⟨ad134, i8, e1⟩ := yaa HR0.out 6 p134 q134; have b4 := e1
         (try rw [show ((6 : Int)).toNat = 6 from rfl] at b4)
         (try rw [show 6 * 1 = 6 from rfl] at b4)
         (try simp only [Nat.reduceMul, Nat.reduceEqDiff, Go.Addr.add, ↓reduceIte] at b4)
         obtain rfl : ad101 = ad134 := (by injection i8)
         (try simp only [show (6 : Int).toNat = 6 from rfl, Nat.reduceMul, Nat.reduceEqDiff, Go.Addr.add, ↓reduceIte] at e1)
         have qi134 : (6 < l0.length) = True := eq_true (by omega)
         (try rw [show ((6 : Int)).toNat = 6 from rfl] at e1)
         replace e1 := (upc_ HB.out e1 :); replace p134 := eq_true p134; replace q134 := eq_true q134
         refine start_ (n := 30) (S := fun w' => w'.cell? ad101 = some (.int .u64 (rd l0 0)) ∧ w'.cell? ⟨ad101.block, ad101.off + 1, none⟩ = some (.int .u64 (rd l0 1)) ∧ w'.cell? ⟨ad101.block, ad101.off + 2, none⟩ = some (.int .u64 (rd l0 2)) ∧ w'.cell? ⟨ad101.block, ad101.off + 3, none⟩ = some (.int .u64 (rd l0 3)) ∧ w'.cell? ⟨ad101.block, ad101.off + 4, none⟩ = some (.int .u64 (rd l0 4)) ∧ w'.cell? ⟨ad101.block, ad101.off + 5, none⟩ = some (.int .u64 (rd l0 5)) ∧ w'.cell? ⟨ad101.block, ad101.off + 6, none⟩ = some (.int .u64 (rd l0 6))) (ds := []) q30_59 (by kernel_rfl) rfl rfl ⟨(upc_ HB.out a8 :), (upc_ HB.out a9 :), (upc_ HB.out b0 :), (upc_ HB.out b1 :), (upc_ HB.out b2 :), (upc_ HB.out b3 :), (upc_ HB.out b4 :)⟩ (fun hHeld => ?_); refine with_tabW spec_l1Step.tab7 spec_l1Step.bits7 (fun HT_ HW_ => ?_)
         generalize w25.drew = w26 at HB d5 d6 d7 d8 d9 e0 e1 hHeld ⊢
         refine pz_ 0 96 q30_60 HT_ (by kernel_rfl) ?_
         refine pz_ 1 97 q30_61 HT_ (by kernel_rfl) ?_
         refine pz_ 2 98 q30_62 HT_ (by kernel_rfl) ?_
         refine pz_ 4 100 q30_63 HT_ (by kernel_rfl) ?_
         refine pz_ 5 101 q30_64 HT_ (by kernel_rfl) ?_
         refine pz_ 7 103 q30_65 HT_ (by kernel_rfl) ?_
         refine pz_ 8 104 q30_66 HT_ (by kernel_rfl) ?_
         refine pz_ 10 106 q30_67 HT_ (by kernel_rfl) ?_
         refine pz_ 11 107 q30_68 HT_ (by kernel_rfl) ?_
         refine pz_ 13 109 q30_69 HT_ (by kernel_rfl) ?_
         refine pz_ 14 110 q30_70 HT_ (by kernel_rfl) ?_
         refine pz_ 16 112 q30_71 HT_ (by kernel_rfl) ?_
         refine pz_ 19 115 q30_72 HT_ (by kernel_rfl) ?_
         refine pz_ 20 116 q30_73 HT_ (by kernel_rfl) ?_
         refine pz_ 22 118 q30_74 HT_ (by kernel_rfl) ?_
         refine pz_ 23 119 q30_75 HT_ (by kernel_rfl) ?_
         refine pz_ 25 121 q30_76 HT_ (by kernel_rfl) ?_
         refine pz_ 26 122 q30_77 HT_ (by kernel_rfl) ?_
         refine tz_ 6 102 q30_78 HT_ HW_ (by kernel_rfl) hHeld ?_
         refine tz_ 9 105 q30_79 HT_ HW_ (by kernel_rfl) hHeld ?_
         refine tz_ 12 108 q30_80 HT_ HW_ (by kernel_rfl) hHeld ?_
         refine tz_ 15 111 q30_81 HT_ HW_ (by kernel_rfl) hHeld ?_
         refine pz_ 17 113 q30_82 HT_ (by kernel_rfl) ?_
         refine tz_ 21 117 q30_83 HT_ HW_ (by kernel_rfl) hHeld ?_
         refine tz_ 24 120 q30_84 HT_ HW_ (by kernel_rfl) hHeld ?_
         refine tz_ 27 123 q30_85 HT_ HW_ (by kernel_rfl) hHeld ?_
         refine one_ (i := 3) (N := some 99) q30_86 rfl rfl (one_of HT_.out (by kernel_rfl)) (by decide) (fun K hK => ?_)
         refine goes_ Tryd.func31 (by kernel_rfl) rfl #[.int .u64 (IntKind.u64.wrap (f3 + g2))] (by rfl) rfl rfl (by (try simp only [List.map_toArray, List.map_cons, List.map_nil]); first | done | rfl | (simp only [List.length_drop, List.length_take]; rfl)) ?_
         with_reducible refine (spec_l1Word.calls (IntKind.u64.wrap (f3 + g2)) f4 _ A19.out).mono ?_
         rintro e w' ⟨rfl, ⟨nd, rfl⟩⟩; refine ⟨_, rfl, ?_⟩
         refine hK.out _ _ ⟨(upc_ HB.out a8 :), (upc_ HB.out a9 :), (upc_ HB.out b0 :), (upc_ HB.out b1 :), (upc_ HB.out b2 :), (upc_ HB.out b3 :), (upc_ HB.out b4 :)⟩ (fun hHeld => ?_)
         clear hK K
         refine norm_ (a' := ?_) ?_ ?_
         rotate_left
         ·
          show Act.put _ (some 99) _ = _
          simp only [Act.put, List.setIfInBounds_toArray, List.set_cons_zero, List.set_cons_succ, i64_w, i32_w]
          rfl
         refine one_ (i := 18) (N := some 114) q30_87 rfl rfl (one_of HT_.out (by kernel_rfl)) (by decide) (fun K hK => ?_)
         refine goes_ Tryd.func31 (by kernel_rfl) rfl #[.int .u64 (IntKind.u64.wrap ((rd l0 3) + f3))] (by rfl) rfl rfl (by (try simp only [List.map_toArray, List.map_cons, List.map_nil]); first | done | rfl | (simp only [List.length_drop, List.length_take]; rfl)) ?_
         with_reducible refine (spec_l1Word.calls (IntKind.u64.wrap ((rd l0 3) + f3)) f5 _ A21.out).mono ?_
         rintro e w' ⟨rfl, ⟨nd, rfl⟩⟩; refine ⟨_, rfl, ?_⟩
         refine hK.out _ _ ⟨(upc_ HB.out a8 :), (upc_ HB.out a9 :), (upc_ HB.out b0 :), (upc_ HB.out b1 :), (upc_ HB.out b2 :), (upc_ HB.out b3 :), (upc_ HB.out b4 :)⟩ (fun hHeld => ?_)
         clear hK K
         refine norm_ (a' := ?_) ?_ ?_
         rotate_left
         ·
          show Act.put _ (some 114) _ = _
          simp only [Act.put, List.setIfInBounds_toArray, List.set_cons_zero, List.set_cons_succ, i64_w, i32_w]
          rfl
         refine one_ (i := 28) (N := some 124) q30_88 rfl rfl (one_of HT_.out (by kernel_rfl)) (by decide) (fun K hK => ?_)
         refine Kd.R_lit_step (Kd.int .u64) _ 40 ?hg (N := 124) ?hd (xs := ([f4, rd l0 0, rd l0 1, rd l0 2, f5, rd l0 4, rd l0 5, rd l0 6] : List Int)) (inner := [.int .u64 f4, .int .u64 (rd l0 0), .int .u64 (rd l0 1), .int .u64 (rd l0 2), .int .u64 f5, .int .u64 (rd l0 4), .int .u64 (rd l0 5), .int .u64 (rd l0 6)]) (ok := fun _ => True) (okp := fun _ => True) ?hr ?hp (fun _ hk => hk) trivial (Below.refl _ _) (Nat.le_refl _) (by simp) ?_; (case hd => rfl); (case hg => rfl); (case hr => first | (go_simp; done) | (go_simp; rfl)); (case hp => exact (Reps.one (show Kd.M (Kd.int .u64) _ _ _ f4 [.int .u64 f4] from rfl) (Reps.one (show Kd.M (Kd.int .u64) _ _ _ (rd l0 0) [.int .u64 (rd l0 0)] from rfl) (Reps.one (show Kd.M (Kd.int .u64) _ _ _ (rd l0 1) [.int .u64 (rd l0 1)] from rfl) (Reps.one (show Kd.M (Kd.int .u64) _ _ _ (rd l0 2) [.int .u64 (rd l0 2)] from rfl) (Reps.one (show Kd.M (Kd.int .u64) _ _ _ f5 [.int .u64 f5] from rfl) (Reps.one (show Kd.M (Kd.int .u64) _ _ _ (rd l0 4) [.int .u64 (rd l0 4)] from rfl) (Reps.one (show Kd.M (Kd.int .u64) _ _ _ (rd l0 5) [.int .u64 (rd l0 5)] from rfl) (Reps.one (show Kd.M (Kd.int .u64) _ _ _ (rd l0 6) [.int .u64 (rd l0 6)] from rfl) (Reps.none _ _))))))))))
         intro k5 w27 g3 hb hg_ hnew_; clear hg_ hnew_
         (first | rw [← Ny135.out] at g3 | (simp only [Int.reduceToNat] at g3; rw [← Ny135.out] at g3))
         have g4 := Aside0.mk (Kd.R_lower g3 (below_size (upH HB.out))); replace HB := Aside0.mk (below_step (upH HB.out) hb); clear hb g3
         refine hK.out _ _ ⟨(upc_ HB.out a8 :), (upc_ HB.out a9 :), (upc_ HB.out b0 :), (upc_ HB.out b1 :), (upc_ HB.out b2 :), (upc_ HB.out b3 :), (upc_ HB.out b4 :)⟩ (fun hHeld => ?_)
         clear hK K
         refine norm_ (a' := ?_) ?_ ?_
         rotate_left
         ·
          show Act.put _ (some 124) _ = _
          simp only [Act.put, List.setIfInBounds_toArray, List.set_cons_zero, List.set_cons_succ, i64_w, i32_w]
          rfl
         refine pz_ 29 6 q30_89 HT_ (by kernel_rfl) ?_
         refine done_ (done_of HT_.out (by kernel_rfl)) ?_
         try go_wp2
         go_ret
         exact ⟨_, by first | rfl | (simp [*, errW_none, errW_some] <;> rfl), by first | exact g4.out | exact upR g4.out, upH HB.out⟩
        ·
         rw [if_neg c20] at H
         exact absurd H (by simp)
       ·
        rw [if_neg c17] at H
        exact absurd H (by simp)
      ·
       rw [if_neg c16] at H
       exact absurd H (by simp)
     ·
      rw [if_neg c12] at H
      exact absurd H (by simp)
    ·
     rw [if_neg c10] at H
     exact absurd H (by simp)
   ·
    rw [if_neg c9] at H
    exact absurd H (by simp)
  ·
   rw [if_neg c8] at H
   exact absurd H (by simp)
 ·
  rw [if_neg c4] at H
  exact absurd H (by simp)
end
section
open Go.Proofs.YtfinaphomgdmlaaDoorW.PrintWords.Aside0 renaming mk → yaa
open Go.Proofs.YtfinaphomgdmlaaDoorW.PrintWords.Kd renaming R_drew → yab, R_alloc → yac, R_drewN → yad, R_mono → yae, R_reads' → yaf, int → yag, R_elder' → yai
open Go.Proofs.YtfinaphomgdmlaaDoorW.PrintWords renaming Aside0 → yah

abbrev q20_0 : Array Bool := Array.replicate 11 false
abbrev q20_1 : Array Bool := #[true, false, false, false, false, false, false, false, false, false, false]
abbrev q20_2 : Array Bool := #[true, true, false, false, false, false, false, false, false, false, false]
abbrev q20_3 : Array Bool := #[true, true, true, false, false, false, false, false, false, false, false]
abbrev q20_4 : Array Bool := #[true, true, true, true, false, false, false, false, false, false, false]
abbrev q20_5 : Array Bool := #[true, true, true, true, false, true, false, false, false, false, false]
abbrev q20_6 : Array Bool := #[true, true, true, true, false, true, true, false, false, false, false]
abbrev q20_7 : Array Bool := #[true, true, true, true, false, true, true, true, false, false, false]
abbrev q20_8 : Array Bool := #[true, true, true, true, true, true, true, true, false, false, false]
abbrev q20_9 : Array Bool := #[true, true, true, true, true, true, true, true, true, false, false]
abbrev q20_10 : Array Bool := #[true, true, true, true, true, true, true, true, true, true, false]
abbrev q20_11 : Array Bool := #[true, true, true, true, true, true, true, true, true, true, true]
abbrev q20_12 : Array Bool := Array.replicate 14 false
abbrev q20_13 : Array Bool := bl_ 14 1
abbrev q20_14 : Array Bool := bl_ 14 3
abbrev q20_15 : Array Bool := bl_ 14 7
abbrev q20_16 : Array Bool := bl_ 14 15
abbrev q20_17 : Array Bool := bl_ 14 31
abbrev q20_18 : Array Bool := bl_ 14 95
abbrev q20_19 : Array Bool := bl_ 14 223
abbrev q20_20 : Array Bool := bl_ 14 479
abbrev q20_21 : Array Bool := bl_ 14 511
abbrev q20_22 : Array Bool := bl_ 14 1023
abbrev q20_23 : Array Bool := bl_ 14 2047
abbrev q20_24 : Array Bool := bl_ 14 4095
abbrev q20_25 : Array Bool := bl_ 14 8191
abbrev q20_26 : Array Bool := bl_ 14 16383
abbrev q20_27 : Array Bool := Array.replicate 27 false
abbrev q20_28 : Array Bool := bl_ 27 1
abbrev q20_29 : Array Bool := bl_ 27 3
abbrev q20_30 : Array Bool := bl_ 27 7
abbrev q20_31 : Array Bool := bl_ 27 15
abbrev q20_32 : Array Bool := bl_ 27 143
abbrev q20_33 : Array Bool := bl_ 27 399
abbrev q20_34 : Array Bool := bl_ 27 911
abbrev q20_35 : Array Bool := bl_ 27 9103
abbrev q20_36 : Array Bool := bl_ 27 25487
abbrev q20_37 : Array Bool := bl_ 27 58255
abbrev q20_38 : Array Bool := bl_ 27 582543
abbrev q20_39 : Array Bool := bl_ 27 1631119
abbrev q20_40 : Array Bool := bl_ 27 3728271
abbrev q20_41 : Array Bool := bl_ 27 3728287
abbrev q20_42 : Array Bool := bl_ 27 3728319
abbrev q20_43 : Array Bool := bl_ 27 3728383
abbrev q20_44 : Array Bool := bl_ 27 3729407
abbrev q20_45 : Array Bool := bl_ 27 3731455
abbrev q20_46 : Array Bool := bl_ 27 3735551
abbrev q20_47 : Array Bool := bl_ 27 3801087
abbrev q20_48 : Array Bool := bl_ 27 3932159
abbrev q20_49 : Array Bool := bl_ 27 4194303
abbrev q20_50 : Array Bool := bl_ 27 8388607
abbrev q20_51 : Array Bool := bl_ 27 16777215
abbrev q20_52 : Array Bool := bl_ 27 33554431
abbrev q20_53 : Array Bool := bl_ 27 67108863
abbrev q20_54 : Array Bool := bl_ 27 134217727
mutual
def spec_l1Sum.l0 : Nat → List Int → List Int → List Int → Int → Option (List Int)
 | 0, _, _, _, _ => none
 | k + 1, x0, x3, x4, x5 => if x5 < 8 then (if 0 ≤ x5 then (if x5 < (x3.length : Int) then ((spec_l1Root.f k (rd x3 x5) 2).bind fun t108 => (if x4.length < 17592186044416 then (spec_l1Sum.l0 k x0 x3 (x4 ++ [t108]) (wrap64 (x5 + 1))) else (none))) else (none)) else (none)) else ((spec_l1Whole.f k x0).bind fun t112 => (spec_l1Sum.l1 k x3 x4 t112 (([] : List Int)) 0))
def spec_l1Sum.l1 : Nat → List Int → List Int → List Int → List Int → Int → Option (List Int)
 | 0, _, _, _, _, _ => none
 | k + 1, x3, x4, x6, x7, x8 => if x8 < 64 then (if 0 ≤ x8 then (if x8 < (x3.length : Int) then ((spec_l1Root.f k (rd x3 x8) 3).bind fun t119 => (if x7.length < 17592186044416 then (spec_l1Sum.l1 k x3 x4 x6 (x7 ++ [t119]) (wrap64 (x8 + 1))) else (none))) else (none)) else (none)) else (spec_l1Sum.l2 k x4 x6 x7 0)
def spec_l1Sum.l2 : Nat → List Int → List Int → List Int → Int → Option (List Int)
 | 0, _, _, _, _ => none
 | k + 1, x4, x6, x7, x9 => if x9 < (x6.length : Int) then (if 0 ≤ x9 then (if x9 ≤ (wrap64 (x9 + 64)) then (if (wrap64 (x9 + 64)) ≤ (x6.length : Int) then ((spec_l1Words.f k ((x6.take ((wrap64 (x9 + 64)) : Int).toNat).drop (x9 : Int).toNat)).bind fun t127 => ((some (([] : List Int) : List Int)).bind fun y130 => (if y130.length + x4.length < 17592186044416 then (spec_l1Sum.l3 k x4 x6 x7 x9 t127 (y130 ++ x4) 0) else (none)))) else (none)) else (none)) else (none)) else (spec_l1Sum.l5 k x4 (([] : List Int)) 0)
def spec_l1Sum.l3 : Nat → List Int → List Int → List Int → Int → List Int → List Int → Int → Option (List Int)
 | 0, _, _, _, _, _, _, _ => none
 | k + 1, x4, x6, x7, x9, x10, x11, x12 => if x12 < 64 then (if 0 ≤ x12 then (if x12 < (x7.length : Int) then (if x12 < (x10.length : Int) then ((spec_l1Step.f x11 (rd x7 x12) (rd x10 x12)).bind fun t138 => (spec_l1Sum.l3 k x4 x6 x7 x9 x10 t138 (wrap64 (x12 + 1)))) else (none)) else (none)) else (none)) else (spec_l1Sum.l4 k x4 x6 x7 x9 x11 0)
def spec_l1Sum.l4 : Nat → List Int → List Int → List Int → Int → List Int → Int → Option (List Int)
 | 0, _, _, _, _, _, _ => none
 | k + 1, x4, x6, x7, x9, x11, x13 => if x13 < 8 then (if 0 ≤ x13 then (if x13 < (x4.length : Int) then (if x13 < (x11.length : Int) then ((spec_l1Word.f (IntKind.u64.wrap ((rd x4 x13) + (rd x11 x13)))).bind fun t143 => (spec_l1Sum.l4 k (x4.set (x13 : Int).toNat t143) x6 x7 x9 x11 (wrap64 (x13 + 1)))) else (none)) else (none)) else (none)) else (spec_l1Sum.l2 k x4 x6 x7 (wrap64 (x9 + 64)))
def spec_l1Sum.l5 : Nat → List Int → List Int → Int → Option (List Int)
 | 0, _, _, _ => none
 | k + 1, x4, x14, x15 => if x15 < 8 then (if 0 ≤ x15 then (if x15 < (x4.length : Int) then ((some (([((rd x4 x15) / 16777216) % 256, ((rd x4 x15) / 65536) % 256, ((rd x4 x15) / 256) % 256, (rd x4 x15) % 256] : List Int) : List Int)).bind fun y152 => (if x14.length + y152.length < 140737488355328 then (spec_l1Sum.l5 k x4 (x14 ++ y152) (wrap64 (x15 + 1))) else (none))) else (none)) else (none)) else (some x14)
end
def spec_l1Sum.f (k : Nat) (l0 : List Int) : Option (List Int) := (spec_l1Primes.f k 64).bind fun t101 => (spec_l1Sum.l0 k l0 t101 (([] : List Int)) 0)
theorem spec_l1Sum.mono_l : ∀ k, (∀ y0 y1 y2 y3, LeO (spec_l1Sum.l0 k y0 y1 y2 y3) (spec_l1Sum.l0 (k + 1) y0 y1 y2 y3)) ∧ (∀ y0 y1 y2 y3 y4, LeO (spec_l1Sum.l1 k y0 y1 y2 y3 y4) (spec_l1Sum.l1 (k + 1) y0 y1 y2 y3 y4)) ∧ (∀ y0 y1 y2 y3, LeO (spec_l1Sum.l2 k y0 y1 y2 y3) (spec_l1Sum.l2 (k + 1) y0 y1 y2 y3)) ∧ (∀ y0 y1 y2 y3 y4 y5 y6, LeO (spec_l1Sum.l3 k y0 y1 y2 y3 y4 y5 y6) (spec_l1Sum.l3 (k + 1) y0 y1 y2 y3 y4 y5 y6)) ∧ (∀ y0 y1 y2 y3 y4 y5, LeO (spec_l1Sum.l4 k y0 y1 y2 y3 y4 y5) (spec_l1Sum.l4 (k + 1) y0 y1 y2 y3 y4 y5)) ∧ (∀ y0 y1 y2, LeO (spec_l1Sum.l5 k y0 y1 y2) (spec_l1Sum.l5 (k + 1) y0 y1 y2))
 | 0 => ⟨fun _ _ _ _ r h => by simp [spec_l1Sum.l0] at h, fun _ _ _ _ _ r h => by simp [spec_l1Sum.l1] at h, fun _ _ _ _ r h => by simp [spec_l1Sum.l2] at h, fun _ _ _ _ _ _ _ r h => by simp [spec_l1Sum.l3] at h, fun _ _ _ _ _ _ r h => by simp [spec_l1Sum.l4] at h, fun _ _ _ r h => by simp [spec_l1Sum.l5] at h⟩
 | k + 1 => by
  obtain ⟨ih0, ih1, ih2, ih3, ih4, ih5⟩ := spec_l1Sum.mono_l k
  refine ⟨?_, ?_, ?_, ?_, ?_, ?_⟩
  ·
   intro y0 y1 y2 y3
   unfold spec_l1Sum.l0
   repeat' first | (with_reducible first | exact ih0 .. | exact ih1 .. | exact ih2 .. | exact ih3 .. | exact ih4 .. | exact ih5 .. | exact spec_l1Primes.mono .. | exact spec_l1Root.mono .. | exact spec_l1Whole.mono .. | exact spec_l1Words.mono .. | exact LeO.refl .. | exact LeO.none .. | refine LeO.ite ?_ ?_ | refine LeO.bind ?_ (fun _ => ?_)) | exact ih0 .. | exact ih1 .. | exact ih2 .. | exact ih3 .. | exact ih4 .. | exact ih5 .. | exact spec_l1Primes.mono .. | exact spec_l1Root.mono .. | exact spec_l1Whole.mono .. | exact spec_l1Words.mono .. | exact LeO.none .. | refine LeO.ite ?_ ?_ | refine LeO.bind ?_ (fun _ => ?_)
  ·
   intro y0 y1 y2 y3 y4
   unfold spec_l1Sum.l1
   repeat' first | (with_reducible first | exact ih0 .. | exact ih1 .. | exact ih2 .. | exact ih3 .. | exact ih4 .. | exact ih5 .. | exact spec_l1Primes.mono .. | exact spec_l1Root.mono .. | exact spec_l1Whole.mono .. | exact spec_l1Words.mono .. | exact LeO.refl .. | exact LeO.none .. | refine LeO.ite ?_ ?_ | refine LeO.bind ?_ (fun _ => ?_)) | exact ih0 .. | exact ih1 .. | exact ih2 .. | exact ih3 .. | exact ih4 .. | exact ih5 .. | exact spec_l1Primes.mono .. | exact spec_l1Root.mono .. | exact spec_l1Whole.mono .. | exact spec_l1Words.mono .. | exact LeO.none .. | refine LeO.ite ?_ ?_ | refine LeO.bind ?_ (fun _ => ?_)
  ·
   intro y0 y1 y2 y3
   unfold spec_l1Sum.l2
   repeat' first | (with_reducible first | exact ih0 .. | exact ih1 .. | exact ih2 .. | exact ih3 .. | exact ih4 .. | exact ih5 .. | exact spec_l1Primes.mono .. | exact spec_l1Root.mono .. | exact spec_l1Whole.mono .. | exact spec_l1Words.mono .. | exact LeO.refl .. | exact LeO.none .. | refine LeO.ite ?_ ?_ | refine LeO.bind ?_ (fun _ => ?_)) | exact ih0 .. | exact ih1 .. | exact ih2 .. | exact ih3 .. | exact ih4 .. | exact ih5 .. | exact spec_l1Primes.mono .. | exact spec_l1Root.mono .. | exact spec_l1Whole.mono .. | exact spec_l1Words.mono .. | exact LeO.none .. | refine LeO.ite ?_ ?_ | refine LeO.bind ?_ (fun _ => ?_)
  ·
   intro y0 y1 y2 y3 y4 y5 y6
   unfold spec_l1Sum.l3
   repeat' first | (with_reducible first | exact ih0 .. | exact ih1 .. | exact ih2 .. | exact ih3 .. | exact ih4 .. | exact ih5 .. | exact spec_l1Primes.mono .. | exact spec_l1Root.mono .. | exact spec_l1Whole.mono .. | exact spec_l1Words.mono .. | exact LeO.refl .. | exact LeO.none .. | refine LeO.ite ?_ ?_ | refine LeO.bind ?_ (fun _ => ?_)) | exact ih0 .. | exact ih1 .. | exact ih2 .. | exact ih3 .. | exact ih4 .. | exact ih5 .. | exact spec_l1Primes.mono .. | exact spec_l1Root.mono .. | exact spec_l1Whole.mono .. | exact spec_l1Words.mono .. | exact LeO.none .. | refine LeO.ite ?_ ?_ | refine LeO.bind ?_ (fun _ => ?_)
  ·
   intro y0 y1 y2 y3 y4 y5
   unfold spec_l1Sum.l4
   repeat' first | (with_reducible first | exact ih0 .. | exact ih1 .. | exact ih2 .. | exact ih3 .. | exact ih4 .. | exact ih5 .. | exact spec_l1Primes.mono .. | exact spec_l1Root.mono .. | exact spec_l1Whole.mono .. | exact spec_l1Words.mono .. | exact LeO.refl .. | exact LeO.none .. | refine LeO.ite ?_ ?_ | refine LeO.bind ?_ (fun _ => ?_)) | exact ih0 .. | exact ih1 .. | exact ih2 .. | exact ih3 .. | exact ih4 .. | exact ih5 .. | exact spec_l1Primes.mono .. | exact spec_l1Root.mono .. | exact spec_l1Whole.mono .. | exact spec_l1Words.mono .. | exact LeO.none .. | refine LeO.ite ?_ ?_ | refine LeO.bind ?_ (fun _ => ?_)
  ·
   intro y0 y1 y2
   unfold spec_l1Sum.l5
   repeat' first | (with_reducible first | exact ih0 .. | exact ih1 .. | exact ih2 .. | exact ih3 .. | exact ih4 .. | exact ih5 .. | exact spec_l1Primes.mono .. | exact spec_l1Root.mono .. | exact spec_l1Whole.mono .. | exact spec_l1Words.mono .. | exact LeO.refl .. | exact LeO.none .. | refine LeO.ite ?_ ?_ | refine LeO.bind ?_ (fun _ => ?_)) | exact ih0 .. | exact ih1 .. | exact ih2 .. | exact ih3 .. | exact ih4 .. | exact ih5 .. | exact spec_l1Primes.mono .. | exact spec_l1Root.mono .. | exact spec_l1Whole.mono .. | exact spec_l1Words.mono .. | exact LeO.none .. | refine LeO.ite ?_ ?_ | refine LeO.bind ?_ (fun _ => ?_)
theorem spec_l1Sum.mono : ∀ a0 k, LeO (spec_l1Sum.f k a0) (spec_l1Sum.f (k + 1) a0) := by
 intro a0 k
 obtain ⟨ih0, ih1, ih2, ih3, ih4, ih5⟩ := spec_l1Sum.mono_l k
 unfold spec_l1Sum.f
 repeat' first | (with_reducible first | exact ih0 .. | exact ih1 .. | exact ih2 .. | exact ih3 .. | exact ih4 .. | exact ih5 .. | exact spec_l1Primes.mono .. | exact spec_l1Root.mono .. | exact spec_l1Whole.mono .. | exact spec_l1Words.mono .. | exact LeO.refl .. | exact LeO.none .. | refine LeO.ite ?_ ?_ | refine LeO.bind ?_ (fun _ => ?_)) | exact ih0 .. | exact ih1 .. | exact ih2 .. | exact ih3 .. | exact ih4 .. | exact ih5 .. | exact spec_l1Primes.mono .. | exact spec_l1Root.mono .. | exact spec_l1Whole.mono .. | exact spec_l1Words.mono .. | exact LeO.none .. | refine LeO.ite ?_ ?_ | refine LeO.bind ?_ (fun _ => ?_)
def spec_l1Sum.T21 : Bool × List (List Nat × List Nat) := (true, [([], []), ([], []), ([], []), ([1, 2], [1, 2]), ([3], [3]), ([], []), ([], []), ([5, 6], [5, 6]), ([7], [7]), ([0, 4, 8], [0, 4, 8]), ([9, 9, 0, 1, 2, 3, 4, 5, 6, 7, 8, 9], [0, 9])])
def spec_l1Sum.B21 : List Nat := [0, 0, 0, 6, 14, 0, 0, 96, 224, 511, 1023]
theorem spec_l1Sum.tab21 : rtab .any (opsOf Tryd.f20 21) = spec_l1Sum.T21 := by kernel_rfl
theorem spec_l1Sum.bits21 : waitsOk spec_l1Sum.T21.2 spec_l1Sum.B21 = true := by kernel_rfl
def spec_l1Sum.T25 : Bool × List (List Nat × List Nat) := (true, [([], []), ([], []), ([], []), ([], []), ([2, 3], [2, 3]), ([4], [4]), ([], []), ([], []), ([6, 7], [6, 7]), ([8], [8]), ([5, 9], [5, 9]), ([10], [10]), ([0, 1, 0, 1, 2, 3, 4, 5, 6, 7, 8, 9, 10, 11], [0, 1]), ([12, 11, 11, 0, 1, 2, 3, 4, 5, 6, 7, 8, 9, 10, 11], [11, 12])])
def spec_l1Sum.B25 : List Nat := [0, 0, 0, 0, 12, 28, 0, 0, 192, 448, 1020, 2044, 4095, 8191]
theorem spec_l1Sum.tab25 : rtab .any (opsOf Tryd.f20 25) = spec_l1Sum.T25 := by kernel_rfl
theorem spec_l1Sum.bits25 : waitsOk spec_l1Sum.T25.2 spec_l1Sum.B25 = true := by kernel_rfl
def spec_l1Sum.T30 : Bool × List (List Nat × List Nat) := (true, [([], []), ([], []), ([], []), ([1, 2], [1, 2]), ([3], [3]), ([4], [4]), ([5], [5]), ([], []), ([], []), ([7, 8], [7, 8]), ([9], [9]), ([10], [10]), ([11], [11]), ([], []), ([], []), ([13, 14], [13, 14]), ([15], [15]), ([16], [16]), ([17], [17]), ([], []), ([], []), ([19, 20], [19, 20]), ([21], [21]), ([22], [22]), ([6, 12, 18, 23], [6, 12, 18, 23]), ([0, 24], [0, 24]), ([25, 25, 0, 1, 2, 3, 4, 5, 6, 7, 8, 9, 10, 11, 12, 13, 14, 15, 16, 17, 18, 19, 20, 21, 22, 23, 24, 25], [0, 25])])
def spec_l1Sum.B30 : List Nat := [0, 0, 0, 6, 14, 30, 62, 0, 0, 384, 896, 1920, 3968, 0, 0, 24576, 57344, 122880, 253952, 0, 0, 1572864, 3670016, 7864320, 16777214, 33554431, 67108863]
theorem spec_l1Sum.tab30 : rtab .any (opsOf Tryd.f20 30) = spec_l1Sum.T30 := by kernel_rfl
theorem spec_l1Sum.bits30 : waitsOk spec_l1Sum.T30.2 spec_l1Sum.B30 = true := by kernel_rfl
set_option maxHeartbeats 8000000 in
set_option maxRecDepth 100000 in
theorem spec_l1Sum.calls (k : Nat) (A0 : Option Addr) (c0 : Nat) (l0 : List Int) (r : List Int) (w : World) (hr0 : Kd.C (yag .u8) w A0 l0.length l0) (hc0 : l0.length ≤ c0) (h : spec_l1Sum.f k l0 = some r) :
  Calls Tryd.prog 20 #[.slice A0 l0.length c0] w fun e w' => ∃ v0_ : Value, e = .returned (v0_) ∧ Kd.R (yag .u8) 5 w' w.heap.size (fun _ => True) v0_ r ∧ Below w.heap.size w w' := by
 have HR0 := yaa hr0; have HC0 := yaa hc0; clear hr0 hc0; have HB := yaa (Below.refl w.heap.size w); have H : ((spec_l1Primes.f k 64).bind fun b1 => (spec_l1Sum.l0 k l0 b1 (([] : List Int)) 0)) = some r := h; clear h; obtain ⟨b1, A2, H⟩ := bindA H; (try dsimp only at H); obtain ⟨y104, hy104⟩ : ∃ y_ : List Int, y_ = (([] : List Int)) := ⟨_, rfl⟩
 replace H : (spec_l1Sum.l0 k l0 b1 y104 0) = some r := by first | (rw [hy104]; with_reducible exact H) | (have H2_ := (Option.bind_some _ _).symm.trans H; rw [hy104]; with_reducible exact H2_) | (have H2_ := (Option.bind_some _ _).symm.trans H; with_reducible exact H2_) | with_reducible exact H | (rw [hy104]; exact H) | exact H
 have Ny104 := yaa hy104; clear hy104; have H' := yaa H; clear H
 go_enter Tryd.func20, Tryd.ntmps20
 go_wp2_with (first | ((with_reducible refine gc_ 26 rfl ?_); refine gl_ (some 16) rfl Tryd.func26 #[.int .i64 64] ?_; (with_reducible refine (spec_l1Primes.calls k 64 b1 _ A2.out).mono ?_); rintro e w3 ⟨g0, rfl, ho0, hb⟩; refine ⟨_, rfl, ?_⟩; have e8 := yaa (Kd.R_lower ho0 (below_size (upH HB.out))); replace HB := yaa (below_step (upH HB.out) hb); (try clear hb ho0)) | ((with_reducible refine gd_ 17 rfl ?_); refine Kd.R_lit (yag .u64) _ 40 ?hg (N := 17) ?hd (xs := ([] : List Int)) (inner := []) (ok := fun _ => True) (okp := fun _ => True) ?hr ?hp (fun _ hk => hk) trivial (Below.refl _ _) (Nat.le_refl _) (by simp) ?_; (case hd => rfl); (case hg => rfl); (case hr => first | (go_simp; done) | (go_simp; rfl)); (case hp => exact (Reps.none _ _)); intro n8 w4 ho5 hb hg_ hnew_; clear hg_ hnew_; (first | rw [← Ny104.out] at ho5 | (simp only [Int.reduceToNat] at ho5; rw [← Ny104.out] at ho5)); have i2 := yaa (Kd.R_lower (Kd.R_new' ho5 (Kd.R_lt (upR e8.out))) (below_size (upH HB.out))); replace e8 := yaa (yai (upR e8.out) (Kd.R_base ho5) hb); replace HB := yaa (below_step (upH HB.out) hb); clear hb ho5))
 (try simp only [Act.put, List.setIfInBounds_toArray, List.set_cons_zero, List.set_cons_succ])
 go_loopg [4, 5] k (fun kq v4 v5 w' => ∃ (d4 : List Int) (b6 : Int), v5 = .int .i64 b6 ∧ yah (spec_l1Sum.l0 kq l0 b1 d4 b6 = some r) ∧ yah (kq ≤ k) ∧ yah (Kd.R (yag .u64) 40 w' w.heap.size (fun k_ => some k_ ≠ (v4 : Value).ownBlock) g0 b1) ∧ yah (Kd.R (yag .u64) 40 w' w.heap.size (fun k_ => some k_ ≠ (g0 : Value).ownBlock) v4 d4) ∧ yah (Below w.heap.size w w'))
 case atStart => exact ⟨(y104), (0), (by first | rfl | (simp; done) | (simp [*]; done)), H', ⟨Nat.le_refl _⟩, ⟨by (with_reducible repeat (first | apply yac | apply yad | apply yab)); exact yae e8.out (fun _ hk => by first | exact hk.2 | exact True.intro)⟩, ⟨by (with_reducible repeat (first | apply yac | apply yad | apply yab)); exact yae i2.out (fun _ hk => by first | exact hk.2 | exact True.intro)⟩, ⟨upH HB.out⟩⟩
 case round =>
  clear H'; (try clear c2); (try clear p2); obtain ⟨d4, b6, rfl, HA, HK1, b2, a2, HB⟩ := hrel
  cases gk with
  | zero => exact absurd HA.out (by simp [spec_l1Sum.l0])
  | succ k1 =>
   have H := HA.out; clear HA
   simp only [spec_l1Sum.l0] at H
   by_cases c6 : b6 < 8
   ·
    rw [if_pos c6] at H
    have f5 : decide (b6 < 8) = true := decide_eq_true c6; clear c6
    by_cases c7 : 0 ≤ b6
    ·
     rw [if_pos c7] at H
     replace c7 := decide_eq_true c7
     by_cases c8 : b6 < (b1.length : Int)
     ·
      rw [if_pos c8] at H
      replace c8 := decide_eq_true c8; obtain ⟨g9, A9, H⟩ := bindA H; (try dsimp only at H)
      by_cases c10 : d4.length < 17592186044416
      ·
       rw [if_pos c10] at H
       have LMc10 := yaa c10; clear c10; obtain ⟨y109, hy109⟩ : ∃ y_ : List Int, y_ = (d4 ++ [g9]) := ⟨_, rfl⟩
       replace H : (spec_l1Sum.l0 k1 l0 b1 y109 (wrap64 (b6 + 1))) = some r := by first | (rw [hy109]; with_reducible exact H) | (have H2_ := (Option.bind_some _ _).symm.trans H; rw [hy109]; with_reducible exact H2_) | (have H2_ := (Option.bind_some _ _).symm.trans H; with_reducible exact H2_) | with_reducible exact H | (rw [hy109]; exact H) | exact H
       have Ny109 := yaa hy109; clear hy109; have H' := yaa H; clear H; obtain ⟨n9, k7, k8⟩ := Kd.R_slice b2.out; subst k8; have p107 : 0 ≤ (b6 : Int) := of_decide_eq_true (by assumption); have q107 : b6 < (b1.length : Int) := of_decide_eq_true (by assumption); obtain ⟨ad107, k9, b8⟩ := Kd.at_int (yaf b2.out).2.2 b6 p107 q107
       cases k9
       replace p107 := eq_true p107; replace q107 := eq_true q107
       go_wp2_with (first | ((with_reducible refine gc_ 27 rfl ?_); refine gl_ (some 27) rfl Tryd.func27 #[.int .u64 (rd b1 b6), .int .i64 2] ?_; (with_reducible refine (spec_l1Root.calls k1 (rd b1 b6) 2 g9 _ A9.out).mono ?_); rintro e w' ⟨rfl, ⟨nd, rfl⟩⟩; refine ⟨_, rfl, ?_⟩) | ((with_reducible refine gate_builtin (b := .append) (xs := #[.tmp 22, .tmp 28]) rfl ?_); at_builtin; refine Kd.R_append (yag .u64) (w0 := w) w.heap.size rfl (.tmp 22) (.tmp 28) 38 40 (.int .u64 0) 8 rfl Tryd.underlying38 info40 rfl (by decide) (by omega) u4 d4 g9 [.int .u64 g9] (fun k_ => some k_ ≠ (.slice (some ad107) b1.length k7 : Value).ownBlock) (fun _ => False) rfl rfl ?aP (fun _ hk => hk.elim) ?aF ?aO ?aB ?aS ?aL ?_; (case aP => exact rfl); (case aB => exact (upH HB.out)); (case aF => exact (fun k_ hk => Kd.fresh' (Kd.R_lt (upR b2.out)) k_ hk)); (case aO => exact (upR a2.out)); (case aS => exact (below_size (upH HB.out))); (case aL => have := LMc10.out; omega); intro o0 w12 ho hb hg hat; rw [← Ny109.out] at ho; replace b2 := yaa (Kd.R_after (ok := (fun _ => True)) (by (with_reducible repeat (first | apply yac | apply yad | apply yab)); exact yae b2.out (fun _ hk => ⟨trivial, hk⟩)) hg hat); replace HB := yaa (hb); have h4 := yaa (ho); clear a2; clear ho hb hg hat))
       go_roundg k1
       case measure => have := HK1.out; omega
       case rel => exact ⟨(y109), (wrap64 (b6 + 1)), (by first | rfl | (simp; done) | (simp [*]; done)), H', ⟨by have := HK1.out; omega⟩, ⟨by (with_reducible repeat (first | apply yac | apply yad | apply yab)); exact yae b2.out (fun _ hk => by first | exact hk.2 | exact True.intro)⟩, ⟨by first | exact h4.out | exact upR h4.out⟩, ⟨upH HB.out⟩⟩
      ·
       rw [if_neg c10] at H
       exact absurd H (by simp)
     ·
      rw [if_neg c8] at H
      exact absurd H (by simp)
    ·
     rw [if_neg c7] at H
     exact absurd H (by simp)
   ·
    rw [if_neg c6] at H
    have f5 : decide (b6 < 8) = false := decide_eq_false c6; clear c6; obtain ⟨a9, A13, H⟩ := bindA H; (try dsimp only at H); obtain ⟨y115, hy115⟩ : ∃ y_ : List Int, y_ = (([] : List Int)) := ⟨_, rfl⟩
    replace H : (spec_l1Sum.l1 k1 b1 d4 a9 y115 0) = some r := by first | (rw [hy115]; with_reducible exact H) | (have H2_ := (Option.bind_some _ _).symm.trans H; rw [hy115]; with_reducible exact H2_) | (have H2_ := (Option.bind_some _ _).symm.trans H; with_reducible exact H2_) | with_reducible exact H | (rw [hy115]; exact H) | exact H
    have Ny115 := yaa hy115; clear hy115; have H' := yaa H; clear H
    go_wp2_with (first | ((with_reducible refine gc_ 28 rfl ?_); refine gl_ (some 31) rfl Tryd.func28 #[.slice A0 l0.length c0] ?_; (with_reducible refine (spec_l1Whole.calls k1 _ _ l0 a9 _ ?side1 ?side2 A13.out).mono ?_); (case side1 => repeat (first | exact (Kd.C_below HR0.out HB.out) | (with_reducible refine Kd.C_alloc ?_ _) | (with_reducible refine Kd.C_drewN ?_ _) | (with_reducible refine Kd.C_drew ?_))); (case side2 => exact HC0.out); rintro e w14 ⟨i3, rfl, ho0, hb⟩; refine ⟨_, rfl, ?_⟩; replace b2 := yaa (Kd.R_below (upR b2.out) hb); replace a2 := yaa (Kd.R_below (upR a2.out) hb); have e9 := yaa (Kd.R_lower ho0 (below_size (upH HB.out))); replace HB := yaa (below_step (upH HB.out) hb); (try clear hb ho0)) | ((with_reducible refine gd_ 32 rfl ?_); refine Kd.R_lit (yag .u64) _ 40 ?hg (N := 32) ?hd (xs := ([] : List Int)) (inner := []) (ok := fun _ => True) (okp := fun _ => True) ?hr ?hp (fun _ hk => hk) trivial (Below.refl _ _) (Nat.le_refl _) (by simp) ?_; (case hd => rfl); (case hg => rfl); (case hr => first | (go_simp; done) | (go_simp; rfl)); (case hp => exact (Reps.none _ _)); intro o1 w15 e6 hb hg_ hnew_; clear hg_ hnew_; (first | rw [← Ny115.out] at e6 | (simp only [Int.reduceToNat] at e6; rw [← Ny115.out] at e6)); replace e9 := yaa (Kd.R_below (upR e9.out) hb); have i4 := yaa (Kd.R_lower (Kd.R_new' (Kd.R_new' e6 (Kd.R_lt (upR b2.out))) (Kd.R_lt (upR a2.out))) (below_size (upH HB.out))); replace b2 := yaa (yai (upR b2.out) (Kd.R_base e6) hb); replace a2 := yaa (yai (upR a2.out) (Kd.R_base e6) hb); replace HB := yaa (below_step (upH HB.out) hb); clear hb e6))
    (try simp only [Act.put, List.setIfInBounds_toArray, List.set_cons_zero, List.set_cons_succ])
    go_loopg [7, 8] k1 (fun kq v7 v8 w' => ∃ (b4 : List Int) (b7 : Int), v8 = .int .i64 b7 ∧ yah (spec_l1Sum.l1 kq b1 d4 a9 b4 b7 = some r) ∧ yah (kq ≤ k1) ∧ yah (Kd.R (yag .u64) 40 w' w.heap.size (fun k_ => some k_ ≠ (u4 : Value).ownBlock ∧ some k_ ≠ (v7 : Value).ownBlock) g0 b1) ∧ yah (Kd.R (yag .u64) 40 w' w.heap.size (fun k_ => some k_ ≠ (g0 : Value).ownBlock ∧ some k_ ≠ (v7 : Value).ownBlock) u4 d4) ∧ yah (Kd.R (yag .u8) 5 w' w.heap.size (fun _ => True) i3 a9) ∧ yah (Kd.R (yag .u64) 40 w' w.heap.size (fun k_ => some k_ ≠ (g0 : Value).ownBlock ∧ some k_ ≠ (u4 : Value).ownBlock) v7 b4) ∧ yah (Below w.heap.size w w'))
    case atStart => exact ⟨(y115), (0), (by first | rfl | (simp; done) | (simp [*]; done)), H', ⟨Nat.le_refl _⟩, ⟨by first | exact b2.out | exact upR b2.out⟩, ⟨by first | exact a2.out | exact upR a2.out⟩, ⟨by first | exact e9.out | exact upR e9.out⟩, ⟨by (with_reducible repeat (first | apply yac | apply yad | apply yab)); exact yae i4.out (fun _ hk => ⟨hk.1.2, hk.2⟩)⟩, ⟨upH HB.out⟩⟩
    case round =>
     clear H'; (try clear c1); (try clear p1); (try clear q1); (try clear hx1); (try clear c2); (try clear p2); (try clear c6); (try clear f5); (try clear p6); (try clear c7); (try clear c7b0); (try clear c8); (try clear c8b0); (try clear c10); (try clear p10); (try clear q10); (try clear hx10); (try clear b8); (try clear p107); (try clear p2); (try clear q107); obtain ⟨b4, b7, rfl, HA, HK2, b2, a2, a5, a8, HB⟩ := hrel
     cases gk with
     | zero => exact absurd HA.out (by simp [spec_l1Sum.l1])
     | succ k2 =>
      have H := HA.out; clear HA
      simp only [spec_l1Sum.l1] at H
      by_cases c17 : b7 < 64
      ·
       rw [if_pos c17] at H
       have e1 : decide (b7 < 64) = true := decide_eq_true c17; clear c17
       by_cases c18 : 0 ≤ b7
       ·
        rw [if_pos c18] at H
        replace c18 := decide_eq_true c18
        by_cases c19 : b7 < (b1.length : Int)
        ·
         rw [if_pos c19] at H
         replace c19 := decide_eq_true c19; obtain ⟨h3, A20, H⟩ := bindA H; (try dsimp only at H)
         by_cases c21 : b4.length < 17592186044416
         ·
          rw [if_pos c21] at H
          have LMc21 := yaa c21; clear c21; obtain ⟨y120, hy120⟩ : ∃ y_ : List Int, y_ = (b4 ++ [h3]) := ⟨_, rfl⟩
          replace H : (spec_l1Sum.l1 k2 b1 d4 a9 y120 (wrap64 (b7 + 1))) = some r := by first | (rw [hy120]; with_reducible exact H) | (have H2_ := (Option.bind_some _ _).symm.trans H; rw [hy120]; with_reducible exact H2_) | (have H2_ := (Option.bind_some _ _).symm.trans H; with_reducible exact H2_) | with_reducible exact H | (rw [hy120]; exact H) | exact H
          have Ny120 := yaa hy120; clear hy120; have H' := yaa H; clear H; obtain ⟨o2, i5, l6⟩ := Kd.R_slice b2.out; subst l6; have p118 : 0 ≤ (b7 : Int) := of_decide_eq_true (by assumption); have q118 : b7 < (b1.length : Int) := of_decide_eq_true (by assumption); obtain ⟨ad118, l7, d0⟩ := Kd.at_int (yaf b2.out).2.2 b7 p118 q118
          cases l7
          replace p118 := eq_true p118; replace q118 := eq_true q118
          go_wp2_with (first | ((with_reducible refine gc_ 27 rfl ?_); refine gl_ (some 42) rfl Tryd.func27 #[.int .u64 (rd b1 b7), .int .i64 3] ?_; (with_reducible refine (spec_l1Root.calls k2 (rd b1 b7) 3 h3 _ A20.out).mono ?_); rintro e w' ⟨rfl, ⟨nd, rfl⟩⟩; refine ⟨_, rfl, ?_⟩) | ((with_reducible refine gate_builtin (b := .append) (xs := #[.tmp 37, .tmp 43]) rfl ?_); at_builtin; refine Kd.R_append (yag .u64) (w0 := w) w.heap.size rfl (.tmp 37) (.tmp 43) 38 40 (.int .u64 0) 8 rfl Tryd.underlying38 info40 rfl (by decide) (by omega) u7 b4 h3 [.int .u64 h3] (fun k_ => some k_ ≠ (.slice (some ad118) b1.length i5 : Value).ownBlock ∧ some k_ ≠ (u4 : Value).ownBlock) (fun _ => False) rfl rfl ?aP (fun _ hk => hk.elim) ?aF ?aO ?aB ?aS ?aL ?_; (case aP => exact rfl); (case aB => exact (upH HB.out)); (case aF => exact (fun k_ hk => ⟨Kd.fresh' (Kd.R_lt (upR b2.out)) k_ hk, Kd.fresh' (Kd.R_lt (upR a2.out)) k_ hk⟩)); (case aO => exact (upR a8.out)); (case aS => exact (below_size (upH HB.out))); (case aL => have := LMc21.out; omega); intro o3 w23 ho hb hg hat; rw [← Ny120.out] at ho; replace b2 := yaa (Kd.R_after (ok := (fun k_ => some k_ ≠ (u4 : Value).ownBlock)) (upR b2.out) hg hat); replace a2 := yaa (Kd.R_after (ok := (fun k_ => some k_ ≠ (.slice (some ad118) b1.length i5 : Value).ownBlock)) (upR a2.out) hg hat); replace a5 := yaa (Kd.R_over' (upR a5.out) (Kd.R_typed (upR a8.out)) (by decide) hg); replace HB := yaa (hb); have h5 := yaa (ho); clear a8; clear ho hb hg hat))
          go_roundg k2
          case measure => have := HK1.out; have := HK2.out; omega
          case rel => exact ⟨(y120), (wrap64 (b7 + 1)), (by first | rfl | (simp; done) | (simp [*]; done)), H', ⟨by have := HK1.out; have := HK2.out; omega⟩, ⟨by first | exact b2.out | exact upR b2.out⟩, ⟨by first | exact a2.out | exact upR a2.out⟩, ⟨by first | exact a5.out | exact upR a5.out⟩, ⟨by first | exact h5.out | exact upR h5.out⟩, ⟨upH HB.out⟩⟩
         ·
          rw [if_neg c21] at H
          exact absurd H (by simp)
        ·
         rw [if_neg c19] at H
         exact absurd H (by simp)
       ·
        rw [if_neg c18] at H
        exact absurd H (by simp)
      ·
       rw [if_neg c17] at H
       have e1 : decide (b7 < 64) = false := decide_eq_false c17; clear c17; have H' := yaa H; clear H
       go_wp2
       (try simp only [Act.put, List.setIfInBounds_toArray, List.set_cons_zero, List.set_cons_succ])
       go_loopg [9] k2 (fun kq v9 w' => ∃ (a3 : List Int) (a6 : Int), v9 = .int .i64 a6 ∧ yah (spec_l1Sum.l2 kq a3 a9 b4 a6 = some r) ∧ yah (kq ≤ k2) ∧ yah (Kd.R (yag .u64) 40 w' w.heap.size (fun k_ => some k_ ≠ (u7 : Value).ownBlock) u4 a3) ∧ yah (Kd.R (yag .u8) 5 w' w.heap.size (fun _ => True) i3 a9) ∧ yah (Kd.R (yag .u64) 40 w' w.heap.size (fun k_ => some k_ ≠ (u4 : Value).ownBlock) u7 b4) ∧ yah (Below w.heap.size w w'))
       case atStart => exact ⟨(d4), (0), (by first | rfl | (simp; done) | (simp [*]; done)), H', ⟨Nat.le_refl _⟩, ⟨by (with_reducible repeat (first | apply yac | apply yad | apply yab)); exact yae a2.out (fun _ hk => by first | exact hk.2 | exact True.intro)⟩, ⟨by first | exact a5.out | exact upR a5.out⟩, ⟨by (with_reducible repeat (first | apply yac | apply yad | apply yab)); exact yae a8.out (fun _ hk => by first | exact hk.2 | exact True.intro)⟩, ⟨upH HB.out⟩⟩
       case round =>
        clear H'; (try clear c1); (try clear p1); (try clear q1); (try clear hx1); (try clear c2); (try clear p2); (try clear c6); (try clear f5); (try clear p6); (try clear c7); (try clear c7b0); (try clear c8); (try clear c8b0); (try clear c10); (try clear p10); (try clear q10); (try clear hx10); (try clear p11); (try clear q11); (try clear hx11); (try clear c17); (try clear e1); (try clear c18); (try clear c18b0); (try clear c19); (try clear c19b0); (try clear c20); (try clear c21); (try clear b8); (try clear d0); (try clear p1); (try clear p10); (try clear p107); (try clear p118); (try clear p2); (try clear p6); (try clear q1); (try clear q10); (try clear q107); (try clear q118); obtain ⟨a3, a6, rfl, HA, HK3, a2, a5, a8, HB⟩ := hrel
        cases gk with
        | zero => exact absurd HA.out (by simp [spec_l1Sum.l2])
        | succ k3 =>
         have H := HA.out; clear HA
         simp only [spec_l1Sum.l2] at H
         by_cases c24 : a6 < (a9.length : Int)
         ·
          rw [if_pos c24] at H
          have f0 : decide (a6 < (a9.length : Int)) = true := decide_eq_true c24; clear c24
          by_cases c25 : 0 ≤ a6
          ·
           rw [if_pos c25] at H
           have g3 := eq_true c25; replace c25 := decide_eq_true c25
           by_cases c26 : a6 ≤ (wrap64 (a6 + 64))
           ·
            rw [if_pos c26] at H
            have g4 := eq_true c26; have g5 : decide (a6 ≤ (wrap64 (a6 + 64))) = true := decide_eq_true c26
            by_cases c27 : (wrap64 (a6 + 64)) ≤ (a9.length : Int)
            ·
             rw [if_pos c27] at H
             have g6 := eq_true c27; have g7 : decide ((wrap64 (a6 + 64)) ≤ (a9.length : Int)) = true := decide_eq_true c27; obtain ⟨y123, hy123⟩ : ∃ y_ : List Int, y_ = ((a9.take ((wrap64 (a6 + 64)) : Int).toNat).drop (a6 : Int).toNat) := ⟨_, rfl⟩
             conv at H => enter [1, 1, 2]; rw [← hy123]
             have Ny123 := yaa hy123; clear hy123; obtain ⟨d9, A28, H⟩ := bindA H; (try dsimp only at H); obtain ⟨y130, hy130, H⟩ := bindY H; (try dsimp only at H); have Ny130 := yaa hy130; clear hy130
             by_cases c29 : y130.length + a3.length < 17592186044416
             ·
              rw [if_pos c29] at H
              have LMc29 := yaa c29; clear c29; obtain ⟨y133, hy133⟩ : ∃ y_ : List Int, y_ = (y130 ++ a3) := ⟨_, rfl⟩
              replace H : (spec_l1Sum.l3 k3 a3 a9 b4 a6 d9 y133 0) = some r := by first | (rw [hy133]; with_reducible exact H) | (have H2_ := (Option.bind_some _ _).symm.trans H; rw [hy133]; with_reducible exact H2_) | (have H2_ := (Option.bind_some _ _).symm.trans H; with_reducible exact H2_) | with_reducible exact H | (rw [hy133]; exact H) | exact H
              have Ny133 := yaa hy133; clear hy133; have H' := yaa H; clear H; obtain ⟨f6, e2, l8⟩ := Kd.R_slice a5.out; subst l8; have q31 : ((wrap64 (a6 + 64)) : Int) ≤ ((a9.length : Int) : Int) := of_decide_eq_true (by assumption); obtain ⟨i031, hi031, _, h6, _⟩ := info_parts info5; have hroom31 : a9.length ≤ e2 := (yaf a5.out).2.1; have hC31 : Kd.C (yag .u8) _ f6 a9.length a9 := (yaf a5.out).2.2; have ql31 : (a6 : Int) ≤ ((wrap64 (a6 + 64)) : Int) := of_decide_eq_true (by assumption); have q031 : (0 : Int) ≤ (a6 : Int) := of_decide_eq_true (by assumption); have hcut31 := cut_mid (P := Tryd.prog) 22 5 .i64 .i64 Tryd.underlying22 hi031 1 h6 f6 a9.length e2 a6 (wrap64 (a6 + 64)) q031 ql31 q31 hroom31; have hr31 := Kd.C_mid (lo := (a6 : Int).toNat) (hi := ((wrap64 (a6 + 64)) : Int).toNat) (c := e2) hC31 (by omega) (by omega) hroom31
              obtain ⟨A31, hA31⟩ : ∃ A1, A1 = (if e2 = (a6 : Int).toNat then f6 else (f6 : Option Addr).map (·.add ((a6 : Int).toNat * 1))) := ⟨_, rfl⟩
              obtain ⟨c31, hc31⟩ : ∃ c1, c1 = e2 - (a6 : Int).toNat := ⟨_, rfl⟩; have hy31 : y123.length = ((wrap64 (a6 + 64)) : Int).toNat - (a6 : Int).toNat := (by rw [Ny123.out, List.length_drop, List.length_take] <;> omega)
              rw [show ((a9).take ((wrap64 (a6 + 64)) : Int).toNat).drop (a6 : Int).toNat = y123 from Ny123.out.symm] at hr31
              replace hr31 : Kd.C (yag .u8) _ A31 y123.length y123 := (by rw [hA31]; exact hr31)
              rw [← hy31, ← hA31, ← hc31] at hcut31
              have HR126 := yaa hr31; have HC126 := yaa (show y123.length ≤ c31 from by rw [hy31, hc31]; exact Nat.sub_le_sub_right (Nat.le_trans (by omega) hroom31) _); clear hr31 hC31 hroom31 hi031 h6 hc31; have KY31 := yaa hy31; have KA31 := yaa hA31; clear hy31 hA31; have KL31 := yaa (show ((wrap64 (a6 + 64)) : Int).toNat ≤ a9.length from by omega); have KM31 := yaa (show (a6 : Int).toNat ≤ ((wrap64 (a6 + 64)) : Int).toNat from by omega); replace q31 := eq_true q31
              go_wp2_with (first | ((with_reducible refine gc_ 29 rfl ?_); refine gl_ (some 56) rfl Tryd.func29 #[.slice A31 y123.length c31] ?_; (with_reducible refine (spec_l1Words.calls k3 _ _ y123 d9 _ ?side1 ?side2 A28.out).mono ?_); (case side1 => repeat (first | exact (by repeat (first | (with_reducible exact HR126.out) | (with_reducible refine Kd.C_alloc ?_ _) | (with_reducible refine Kd.C_drewN ?_ _) | (with_reducible refine Kd.C_drew ?_) | exact HR126.out)) | (with_reducible refine Kd.C_alloc ?_ _) | (with_reducible refine Kd.C_drewN ?_ _) | (with_reducible refine Kd.C_drew ?_))); (case side2 => exact HC126.out); rintro e w32 ⟨e7, rfl, ho0, hb⟩; refine ⟨_, rfl, ?_⟩; replace a5 := yaa (Kd.R_below (upR a5.out) hb); have d5 := yaa (Kd.R_lower (Kd.R_new' (Kd.R_new' ho0 (Kd.R_lt (upR a2.out))) (Kd.R_lt (upR a8.out))) (below_size (upH HB.out))); replace a2 := yaa (yai (upR a2.out) (Kd.R_base ho0) hb); replace a8 := yaa (yai (upR a8.out) (Kd.R_base ho0) hb); replace HR126 := yaa (Kd.C_below (by repeat (first | (with_reducible exact HR126.out) | (with_reducible refine Kd.C_alloc ?_ _) | (with_reducible refine Kd.C_drewN ?_ _) | (with_reducible refine Kd.C_drew ?_) | exact HR126.out)) hb); replace HB := yaa (below_step (upH HB.out) hb); (try clear hb ho0)) | ((with_reducible refine gd_ 57 rfl ?_); refine Kd.R_lit (yag .u64) _ 40 ?hg (N := 57) ?hd (xs := ([] : List Int)) (inner := []) (ok := fun _ => True) (okp := fun _ => True) ?hr ?hp (fun _ hk => hk) trivial (Below.refl _ _) (Nat.le_refl _) (by simp) ?_; (case hd => rfl); (case hg => rfl); (case hr => first | (go_simp; done) | (go_simp; rfl)); (case hp => exact (Reps.none _ _)); intro l9 w33 e3 hb hg_ hnew_; clear hg_ hnew_; (first | rw [← Ny130.out] at e3 | (simp only [Int.reduceToNat] at e3; rw [← Ny130.out] at e3)); replace a5 := yaa (Kd.R_below (upR a5.out) hb); have e4 := yaa (Kd.R_lower (Kd.R_new' (Kd.R_new' (Kd.R_new' e3 (Kd.R_lt (upR a2.out))) (Kd.R_lt (upR a8.out))) (Kd.R_lt (upR d5.out))) (below_size (upH HB.out))); replace a2 := yaa (yai (upR a2.out) (Kd.R_base e3) hb); replace a8 := yaa (yai (upR a8.out) (Kd.R_base e3) hb); replace d5 := yaa (yai (upR d5.out) (Kd.R_base e3) hb); replace HR126 := yaa (Kd.C_below (by repeat (first | (with_reducible exact HR126.out) | (with_reducible refine Kd.C_alloc ?_ _) | (with_reducible refine Kd.C_drewN ?_ _) | (with_reducible refine Kd.C_drew ?_) | exact HR126.out)) hb); replace HB := yaa (below_step (upH HB.out) hb); clear hb e3; obtain ⟨d7, d8, m0⟩ := Kd.R_slice a2.out; subst m0) | ((with_reducible refine gate_builtin (b := .append) (xs := #[.tmp 57, .tmp 58]) rfl ?_); at_builtin; refine Kd.R_append_rows (yag .u64) (w0 := w) w.heap.size rfl (.tmp 57) (.tmp 58) 38 40 (.int .u64 0) 8 rfl Tryd.underlying38 info40 rfl (by decide) (by omega) l9 y130 a3 _ _ _ (fun k_ => some k_ ≠ (.slice d7 a3.length d8 : Value).ownBlock ∧ some k_ ≠ (u7 : Value).ownBlock ∧ some k_ ≠ (e7 : Value).ownBlock) (fun _ => False) rfl rfl ?aO ?aR (fun _ _ h => h) (fun _ h => h.elim) ?aF ?aB ?aS ?aL ?_; (case aR => repeat (first | exact (yaf a2.out).2.2 | (with_reducible refine Kd.C_alloc ?_ _) | (with_reducible refine Kd.C_drewN ?_ _) | (with_reducible refine Kd.C_drew ?_))); (case aB => exact (upH HB.out)); (case aF => exact (fun k_ hk => ⟨Kd.fresh' (Kd.R_lt (upR a2.out)) k_ hk, Kd.fresh' (Kd.R_lt (upR a8.out)) k_ hk, Kd.fresh' (Kd.R_lt (upR d5.out)) k_ hk⟩)); (case aO => exact (by (with_reducible repeat (first | apply yac | apply yad | apply yab)); exact yae e4.out (fun _ hk => ⟨hk.1.1.2, ⟨hk.1.2, hk.2⟩⟩))); (case aS => exact (below_size (upH HB.out))); (case aL => have := LMc29.out; omega); intro o4 w35 ho hb hg hat; rw [← Ny133.out] at ho; replace a2 := yaa (Kd.R_after (ok := (fun k_ => some k_ ≠ (u7 : Value).ownBlock ∧ some k_ ≠ (e7 : Value).ownBlock)) (upR a2.out) hg hat); replace a8 := yaa (Kd.R_after (ok := (fun k_ => some k_ ≠ (.slice d7 a3.length d8 : Value).ownBlock ∧ some k_ ≠ (e7 : Value).ownBlock)) (upR a8.out) hg hat); replace d5 := yaa (Kd.R_after (ok := (fun k_ => some k_ ≠ (.slice d7 a3.length d8 : Value).ownBlock ∧ some k_ ≠ (u7 : Value).ownBlock)) (by (with_reducible repeat (first | apply yac | apply yad | apply yab)); exact yae d5.out (fun _ hk => ⟨⟨hk.1.1.2, hk.1.2⟩, hk.2⟩)) hg hat); replace HB := yaa (hb); replace HR126 := yaa ((show Kd.C (yag .u8) w35 A31 y123.length y123 from by rw [Ny123.out, KA31.out]; exact Kd.C_mid (lo := (a6 : Int).toNat) (hi := ((wrap64 (a6 + 64)) : Int).toNat) (c := e2) ((yaf (Kd.R_over' (upR a5.out) (Kd.R_typed (upR e4.out)) (by decide) hg)).2.2) KM31.out KL31.out ((yaf (Kd.R_over' (upR a5.out) (Kd.R_typed (upR e4.out)) (by decide) hg)).2.1))); replace a5 := yaa (Kd.R_over' (upR a5.out) (Kd.R_typed (upR e4.out)) (by decide) hg); have h7 := yaa (ho); clear e4; clear ho hb hg hat))
              (try simp only [Act.put, List.setIfInBounds_toArray, List.set_cons_zero, List.set_cons_succ])
              go_loopg [11, 12] k3 (fun kq v11 v12 w' => ∃ (b3 : List Int) (a7 : Int), v12 = .int .i64 a7 ∧ yah (spec_l1Sum.l3 kq a3 a9 b4 a6 d9 b3 a7 = some r) ∧ yah (kq ≤ k3) ∧ yah (Kd.R (yag .u64) 40 w' w.heap.size (fun k_ => some k_ ≠ (u7 : Value).ownBlock ∧ some k_ ≠ (e7 : Value).ownBlock ∧ some k_ ≠ (v11 : Value).ownBlock) (.slice d7 a3.length d8) a3) ∧ yah (Kd.R (yag .u8) 5 w' w.heap.size (fun _ => True) (.slice f6 a9.length e2) a9) ∧ yah (Kd.R (yag .u64) 40 w' w.heap.size (fun k_ => some k_ ≠ ((.slice d7 a3.length d8) : Value).ownBlock ∧ some k_ ≠ (e7 : Value).ownBlock ∧ some k_ ≠ (v11 : Value).ownBlock) u7 b4) ∧ yah (Kd.R (yag .u64) 40 w' w.heap.size (fun k_ => some k_ ≠ ((.slice d7 a3.length d8) : Value).ownBlock ∧ some k_ ≠ (u7 : Value).ownBlock ∧ some k_ ≠ (v11 : Value).ownBlock) e7 d9) ∧ yah (Kd.R (yag .u64) 40 w' w.heap.size (fun k_ => some k_ ≠ ((.slice d7 a3.length d8) : Value).ownBlock ∧ some k_ ≠ (u7 : Value).ownBlock ∧ some k_ ≠ (e7 : Value).ownBlock) v11 b3) ∧ yah (Below w.heap.size w w'))
              case atStart => exact ⟨(y133), (0), (by first | rfl | (simp; done) | (simp [*]; done)), H', ⟨Nat.le_refl _⟩, ⟨by (with_reducible repeat (first | apply yac | apply yad | apply yab)); exact yae a2.out (fun _ hk => ⟨hk.1.1, ⟨hk.1.2, hk.2⟩⟩)⟩, ⟨by first | exact a5.out | exact upR a5.out⟩, ⟨by (with_reducible repeat (first | apply yac | apply yad | apply yab)); exact yae a8.out (fun _ hk => ⟨hk.1.1, ⟨hk.1.2, hk.2⟩⟩)⟩, ⟨by (with_reducible repeat (first | apply yac | apply yad | apply yab)); exact yae d5.out (fun _ hk => ⟨hk.1.1, ⟨hk.1.2, hk.2⟩⟩)⟩, ⟨by first | exact h7.out | exact upR h7.out⟩, ⟨upH HB.out⟩⟩
              case round =>
               clear H'; (try clear c1); (try clear p1); (try clear q1); (try clear hx1); (try clear c2); (try clear p2); (try clear c3); (try clear q3); (try clear c6); (try clear f5); (try clear p6); (try clear c7); (try clear c7b0); (try clear c8); (try clear c8b0); (try clear c10); (try clear p10); (try clear q10); (try clear hx10); (try clear p11); (try clear q11); (try clear hx11); (try clear c17); (try clear e1); (try clear c18); (try clear c18b0); (try clear c19); (try clear c19b0); (try clear c20); (try clear c21); (try clear c24); (try clear f0); (try clear c25); (try clear g3); (try clear c25b1); (try clear c26); (try clear g4); (try clear g5); (try clear c27); (try clear g6); (try clear g7); (try clear c28); (try clear c29); (try clear c31); (try clear q31); (try clear b8); (try clear d0); (try clear p1); (try clear p10); (try clear p107); (try clear p11); (try clear p118); (try clear p2); (try clear p6); (try clear q031); (try clear q1); (try clear q10); (try clear q107); (try clear q11); (try clear q118); (try clear q31); obtain ⟨b3, a7, rfl, HA, HK4, a2, a5, a8, b9, b0, HB⟩ := hrel
               cases gk with
               | zero => exact absurd HA.out (by simp [spec_l1Sum.l3])
               | succ k4 =>
                have H := HA.out; clear HA
                simp only [spec_l1Sum.l3] at H
                by_cases c37 : a7 < 64
                ·
                 rw [if_pos c37] at H
                 have g8 : decide (a7 < 64) = true := decide_eq_true c37; clear c37
                 by_cases c38 : 0 ≤ a7
                 ·
                  rw [if_pos c38] at H
                  replace c38 := decide_eq_true c38
                  by_cases c39 : a7 < (b4.length : Int)
                  ·
                   rw [if_pos c39] at H
                   replace c39 := decide_eq_true c39
                   by_cases c40 : a7 < (d9.length : Int)
                   ·
                    rw [if_pos c40] at H
                    replace c40 := decide_eq_true c40; obtain ⟨i6, A41, H⟩ := bindA H; (try dsimp only at H); have H' := yaa H; clear H
                    try go_wp2
                    replace a2 := yaa (yab a2.out); replace a5 := yaa (yab a5.out); replace a8 := yaa (yab a8.out); replace b9 := yaa (yab b9.out); replace b0 := yaa (yab b0.out); replace HB := yaa (below_drew1 HB.out); obtain ⟨o5, o6, i7⟩ := Kd.R_slice a8.out
                    (first | subst i7 | (injection i7 with f1_ f2_ f3_; have f4_ := f1_.symm; have f5_ := f3_.symm; clear f1_ f2_ f3_; subst f4_; subst f5_))
                    have p136 : 0 ≤ (a7 : Int) := of_decide_eq_true (by assumption); have q136 : a7 < (b4.length : Int) := of_decide_eq_true (by assumption); obtain ⟨ad136, m1, d1⟩ := Kd.at_int (yaf a8.out).2.2 a7 p136 q136
                    cases m1
                    replace p136 := eq_true p136; replace q136 := eq_true q136; obtain ⟨o7, o8, i8⟩ := Kd.R_slice b9.out
                    (first | subst i8 | (injection i8 with f1_ f2_ f3_; have f4_ := f1_.symm; have f5_ := f3_.symm; clear f1_ f2_ f3_; subst f4_; subst f5_))
                    have p137 : 0 ≤ (a7 : Int) := of_decide_eq_true (by assumption); have q137 : a7 < (d9.length : Int) := of_decide_eq_true (by assumption); obtain ⟨ad137, m2, d2⟩ := Kd.at_int (yaf b9.out).2.2 a7 p137 q137
                    cases m2
                    replace p137 := eq_true p137; replace q137 := eq_true q137; obtain ⟨m3, m4, i9⟩ := Kd.R_slice b0.out
                    (first | subst i9 | (injection i9 with f1_ f2_ f3_; have f4_ := f1_.symm; have f5_ := f3_.symm; clear f1_ f2_ f3_; subst f4_; subst f5_))
                    refine start_ (n := 11) (S := fun w' => w'.cell? (ad136.add (a7).toNat) = some (.int .u64 (rd b4 a7)) ∧ w'.cell? (ad137.add (a7).toNat) = some (.int .u64 (rd d9 a7))) (ds := []) q20_0 (by kernel_rfl) rfl rfl ⟨d1, d2⟩ (fun hHeld => ?_); refine with_tabW spec_l1Sum.tab21 spec_l1Sum.bits21 (fun HT_ HW_ => ?_)
                    generalize wr.drew = w42 at a2 a5 a8 b9 b0 HB d1 d2 hHeld ⊢
                    refine pz_ 0 64 q20_1 HT_ (by kernel_rfl) ?_
                    refine pz_ 1 65 q20_2 HT_ (by kernel_rfl) ?_
                    refine pz_ 2 66 q20_3 HT_ (by kernel_rfl) ?_
                    refine pz_ 3 67 q20_4 HT_ (by kernel_rfl) ?_
                    refine pz_ 5 69 q20_5 HT_ (by kernel_rfl) ?_
                    refine pz_ 6 70 q20_6 HT_ (by kernel_rfl) ?_
                    refine pz_ 7 71 q20_7 HT_ (by kernel_rfl) ?_
                    refine tz_ 4 68 q20_8 HT_ HW_ (by kernel_rfl) hHeld ?_
                    refine tz_ 8 72 q20_9 HT_ HW_ (by kernel_rfl) hHeld ?_
                    refine one_ (i := 9) (N := some 73) q20_10 rfl rfl (one_of HT_.out (by kernel_rfl)) (by decide) (fun K hK => ?_)
                    refine goes_ Tryd.func30 (by kernel_rfl) rfl #[.slice m3 b3.length m4, .int .u64 (rd b4 a7), .int .u64 (rd d9 a7)] (by rfl) rfl rfl (by (try simp only [List.map_toArray, List.map_cons, List.map_nil]); first | done | rfl | (simp only [List.length_drop, List.length_take]; rfl)) ?_
                    with_reducible refine (spec_l1Step.calls _ _ b3 (rd b4 a7) (rd d9 a7) i6 _ ?side1 ?side2 A41.out).mono ?_
                    (case side1 => repeat (first | exact (yaf b0.out).2.2 | (with_reducible refine Kd.C_alloc ?_ _) | (with_reducible refine Kd.C_drewN ?_ _) | (with_reducible refine Kd.C_drew ?_)))
                    (case side2 => exact (yaf b0.out).2.1)
                    rintro e w46 ⟨o9, rfl, ho0, hb⟩; have HS0_ := (hb.cell (World.block_lt_of_cell? _ _ (hHeld.1))).trans (hHeld.1); have HS1_ := (hb.cell (World.block_lt_of_cell? _ _ (hHeld.2))).trans (hHeld.2); refine ⟨_, rfl, ?_⟩; replace a5 := yaa (Kd.R_below (upR a5.out) hb); have j0 := yaa (Kd.R_lower (Kd.R_new' (Kd.R_new' (Kd.R_new' (Kd.R_new' ho0 (Kd.R_lt (upR a2.out))) (Kd.R_lt (upR a8.out))) (Kd.R_lt (upR b9.out))) (Kd.R_lt (upR b0.out))) (below_size (upH HB.out))); replace a2 := yaa (yai (upR a2.out) (Kd.R_base ho0) hb); replace a8 := yaa (yai (upR a8.out) (Kd.R_base ho0) hb); replace b9 := yaa (yai (upR b9.out) (Kd.R_base ho0) hb); replace b0 := yaa (yai (upR b0.out) (Kd.R_base ho0) hb); replace HB := yaa (below_step (upH HB.out) hb); (try clear hb); (try clear hb2); (try clear hk); (try clear hi); (try clear ho0)
                    refine hK.out _ _ ⟨HS0_, HS1_⟩ (fun hHeld => ?_)
                    clear hK K
                    refine norm_ (a' := ?_) ?_ ?_
                    rotate_left
                    ·
                     show Act.put _ (some 73) _ = _
                     simp only [Act.put, List.setIfInBounds_toArray, List.set_cons_zero, List.set_cons_succ, i64_w, i32_w]
                     rfl
                    refine pz_ 10 11 q20_11 HT_ (by kernel_rfl) ?_
                    refine done_ (done_of HT_.out (by kernel_rfl)) ?_
                    try go_wp2
                    go_roundg k4
                    case measure => have := HK1.out; have := HK2.out; have := HK3.out; have := HK4.out; omega
                    case rel => exact ⟨(i6), (wrap64 (a7 + 1)), (by first | rfl | (simp; done) | (simp [*]; done)), H', ⟨by have := HK1.out; have := HK2.out; have := HK3.out; have := HK4.out; omega⟩, ⟨by (with_reducible repeat (first | apply yac | apply yad | apply yab)); exact yae a2.out (fun _ hk => ⟨hk.1.1, ⟨hk.1.2.1, hk.2⟩⟩)⟩, ⟨by first | exact a5.out | exact upR a5.out⟩, ⟨by (with_reducible repeat (first | apply yac | apply yad | apply yab)); exact yae a8.out (fun _ hk => ⟨hk.1.1, ⟨hk.1.2.1, hk.2⟩⟩)⟩, ⟨by (with_reducible repeat (first | apply yac | apply yad | apply yab)); exact yae b9.out (fun _ hk => ⟨hk.1.1, ⟨hk.1.2.1, hk.2⟩⟩)⟩, ⟨by (with_reducible repeat (first | apply yac | apply yad | apply yab)); exact yae j0.out (fun _ hk => ⟨hk.1.1.1.2, ⟨hk.1.1.2, hk.1.2⟩⟩)⟩, ⟨upH HB.out⟩⟩
                   ·
                    rw [if_neg c40] at H
                    exact absurd H (by simp)
                  ·
                   rw [if_neg c39] at H
                   exact absurd H (by simp)
                 ·
                  rw [if_neg c38] at H
                  exact absurd H (by simp)
                ·
                 rw [if_neg c37] at H
                 have g8 : decide (a7 < 64) = false := decide_eq_false c37; clear c37; have H' := yaa H; clear H
                 go_wp2
                 (try simp only [Act.put, List.setIfInBounds_toArray, List.set_cons_zero, List.set_cons_succ])
                 go_loopg [13] k4 (fun kq v13 w' => ∃ (d6 : List Int) (a4 : Int), v13 = .int .i64 a4 ∧ yah (spec_l1Sum.l4 kq d6 a9 b4 a6 b3 a4 = some r) ∧ yah (kq ≤ k4) ∧ yah (Kd.R (yag .u64) 40 w' w.heap.size (fun k_ => some k_ ≠ (u7 : Value).ownBlock ∧ some k_ ≠ (u11 : Value).ownBlock) (.slice d7 a3.length d8) d6) ∧ yah (Kd.R (yag .u8) 5 w' w.heap.size (fun _ => True) (.slice f6 a9.length e2) a9) ∧ yah (Kd.R (yag .u64) 40 w' w.heap.size (fun k_ => some k_ ≠ ((.slice d7 a3.length d8) : Value).ownBlock ∧ some k_ ≠ (u11 : Value).ownBlock) u7 b4) ∧ yah (Kd.R (yag .u64) 40 w' w.heap.size (fun k_ => some k_ ≠ ((.slice d7 a3.length d8) : Value).ownBlock ∧ some k_ ≠ (u7 : Value).ownBlock) u11 b3) ∧ yah (Below w.heap.size w w'))
                 case atStart => exact ⟨(a3), (0), (by first | rfl | (simp; done) | (simp [*]; done)), H', ⟨Nat.le_refl _⟩, ⟨by (with_reducible repeat (first | apply yac | apply yad | apply yab)); exact yae a2.out (fun _ hk => ⟨hk.1, hk.2.2⟩)⟩, ⟨by first | exact a5.out | exact upR a5.out⟩, ⟨by (with_reducible repeat (first | apply yac | apply yad | apply yab)); exact yae a8.out (fun _ hk => ⟨hk.1, hk.2.2⟩)⟩, ⟨by (with_reducible repeat (first | apply yac | apply yad | apply yab)); exact yae b0.out (fun _ hk => ⟨hk.1, hk.2.1⟩)⟩, ⟨upH HB.out⟩⟩
                 case round =>
                  clear H'; (try clear c1); (try clear p1); (try clear q1); (try clear hx1); (try clear c2); (try clear p2); (try clear c3); (try clear q3); (try clear c4); (try clear c6); (try clear f5); (try clear p6); (try clear c7); (try clear c7b0); (try clear c8); (try clear c8b0); (try clear c10); (try clear p10); (try clear q10); (try clear hx10); (try clear p11); (try clear q11); (try clear hx11); (try clear p13); (try clear q13); (try clear hx13); (try clear c17); (try clear e1); (try clear c18); (try clear c18b0); (try clear c19); (try clear c19b0); (try clear c20); (try clear c21); (try clear c24); (try clear f0); (try clear c25); (try clear g3); (try clear c25b1); (try clear c26); (try clear g4); (try clear g5); (try clear c27); (try clear g6); (try clear g7); (try clear c28); (try clear c29); (try clear c30); (try clear c31); (try clear q31); (try clear c37); (try clear g8); (try clear c38); (try clear c38b0); (try clear c39); (try clear c39b0); (try clear c40); (try clear c40b0); (try clear b8); (try clear d0); (try clear d1); (try clear d2); (try clear p1); (try clear p10); (try clear p107); (try clear p11); (try clear p118); (try clear p136); (try clear p137); (try clear p2); (try clear p6); (try clear q031); (try clear q1); (try clear q10); (try clear q107); (try clear q11); (try clear q118); (try clear q136); (try clear q137); (try clear q3); (try clear q31); obtain ⟨d6, a4, rfl, HA, HK5, a2, a5, a8, b0, HB⟩ := hrel; have hl4_5 := (yaf a2.out).1
                  rw [hl4_5] at a2
                  (try simp only [hl4_5])
                  (try simp only [hl4_5] at a5)
                  (try simp only [hl4_5] at a8)
                  (try simp only [hl4_5] at b0)
                  cases gk with
                  | zero => exact absurd HA.out (by simp [spec_l1Sum.l4])
                  | succ k5 =>
                   have H := HA.out; clear HA
                   simp only [spec_l1Sum.l4] at H
                   by_cases c47 : a4 < 8
                   ·
                    rw [if_pos c47] at H
                    have h9 : decide (a4 < 8) = true := decide_eq_true c47; clear c47
                    by_cases c48 : 0 ≤ a4
                    ·
                     rw [if_pos c48] at H
                     replace c48 := decide_eq_true c48
                     by_cases c49 : a4 < (d6.length : Int)
                     ·
                      rw [if_pos c49] at H
                      replace c49 := decide_eq_true c49
                      by_cases c50 : a4 < (b3.length : Int)
                      ·
                       rw [if_pos c50] at H
                       replace c50 := decide_eq_true c50; obtain ⟨f7, A51, H⟩ := bindA H; (try dsimp only at H); obtain ⟨y144, hy144⟩ : ∃ y_ : List Int, y_ = (d6.set (a4 : Int).toNat f7) := ⟨_, rfl⟩
                       replace H : (spec_l1Sum.l4 k5 y144 a9 b4 a6 b3 (wrap64 (a4 + 1))) = some r := by first | (rw [hy144]; with_reducible exact H) | (have H2_ := (Option.bind_some _ _).symm.trans H; rw [hy144]; with_reducible exact H2_) | (have H2_ := (Option.bind_some _ _).symm.trans H; with_reducible exact H2_) | with_reducible exact H | (rw [hy144]; exact H) | exact H
                       have Ny144 := yaa hy144; clear hy144; have H' := yaa H; clear H
                       try go_wp2
                       replace a2 := yaa (yab a2.out); replace a5 := yaa (yab a5.out); replace a8 := yaa (yab a8.out); replace b0 := yaa (yab b0.out); replace HB := yaa (below_drew1 HB.out); have p141 : 0 ≤ (a4 : Int) := of_decide_eq_true (by assumption); have q141 : a4 < (d6.length : Int) := of_decide_eq_true (by assumption); obtain ⟨ad141, m6, d3⟩ := Kd.at_int (yaf a2.out).2.2 a4 p141 q141
                       cases m6
                       replace p141 := eq_true p141; replace q141 := eq_true q141; obtain ⟨p0, p3, j4⟩ := Kd.R_slice b0.out
                       (first | subst j4 | (injection j4 with f1_ f2_ f3_; have f4_ := f1_.symm; have f5_ := f3_.symm; clear f1_ f2_ f3_; subst f4_; subst f5_))
                       have p142 : 0 ≤ (a4 : Int) := of_decide_eq_true (by assumption); have q142 : a4 < (b3.length : Int) := of_decide_eq_true (by assumption); obtain ⟨ad142, m7, e0⟩ := Kd.at_int (yaf b0.out).2.2 a4 p142 q142
                       cases m7
                       replace p142 := eq_true p142; replace q142 := eq_true q142
                       refine start_ (n := 14) (S := fun w' => w'.cell? (ad141.add (a4).toNat) = some (.int .u64 (rd d6 a4)) ∧ w'.cell? (ad142.add (a4).toNat) = some (.int .u64 (rd b3 a4))) (ds := [13]) q20_12 (by kernel_rfl) rfl rfl ⟨d3, e0⟩ (fun hHeld => ?_); refine with_tabW spec_l1Sum.tab25 spec_l1Sum.bits25 (fun HT_ HW_ => ?_)
                       generalize wr.drew = w53 at a2 a5 a8 b0 HB d3 e0 hHeld ⊢
                       refine pz_ 0 78 q20_13 HT_ (by kernel_rfl) ?_
                       refine pz_ 1 79 q20_14 HT_ (by kernel_rfl) ?_
                       refine pz_ 2 80 q20_15 HT_ (by kernel_rfl) ?_
                       refine pz_ 3 81 q20_16 HT_ (by kernel_rfl) ?_
                       refine pz_ 4 82 q20_17 HT_ (by kernel_rfl) ?_
                       refine pz_ 6 84 q20_18 HT_ (by kernel_rfl) ?_
                       refine pz_ 7 85 q20_19 HT_ (by kernel_rfl) ?_
                       refine pz_ 8 86 q20_20 HT_ (by kernel_rfl) ?_
                       refine tz_ 5 83 q20_21 HT_ HW_ (by kernel_rfl) hHeld ?_
                       refine tz_ 9 87 q20_22 HT_ HW_ (by kernel_rfl) hHeld ?_
                       refine pz_ 10 88 q20_23 HT_ (by kernel_rfl) ?_
                       refine one_ (i := 11) (N := some 89) q20_24 rfl rfl (one_of HT_.out (by kernel_rfl)) (by decide) (fun K hK => ?_)
                       refine goes_ Tryd.func31 (by kernel_rfl) rfl #[.int .u64 (IntKind.u64.wrap ((rd d6 a4) + (rd b3 a4)))] (by rfl) rfl rfl (by (try simp only [List.map_toArray, List.map_cons, List.map_nil]); first | done | rfl | (simp only [List.length_drop, List.length_take]; rfl)) ?_
                       with_reducible refine (spec_l1Word.calls (IntKind.u64.wrap ((rd d6 a4) + (rd b3 a4))) f7 _ A51.out).mono ?_
                       rintro e w' ⟨rfl, ⟨nd, rfl⟩⟩; refine ⟨_, rfl, ?_⟩; have p52 : 0 ≤ (a4 : Int) := of_decide_eq_true (by assumption); have q52 : (a4 : Int) < ((d6.length : Int) : Int) := of_decide_eq_true (by assumption); obtain ⟨go52, p4, j5, j6, gl52, p7, HG52⟩ := Kd.R_form a2.out (by omega)
                       (first | cases j5 | (injection j5 with ea_ en_ ec_; (first | subst ea_ | (injection ea_ with ea_; subst ea_)); subst ec_; clear en_))
                       have GB52 := yaa j6; have GG52 := yaa HG52; clear j6 gl52 HG52
                       (first | simp only [add_plain] at d3 | skip)
                       obtain ⟨i1, hf52_0⟩ := Kd.R_celln 0 a2.out (a4 : Int) p52 q52; replace p52 := eq_true p52; replace q52 := eq_true q52; have HP55 := Kd.R_putn a2.out (a4 : Int) f7
                       rw [← Ny144.out] at HP55
                       have HQ55 := yaa HP55; clear HP55
                       refine hK.out _ _ ⟨hHeld.1, hHeld.2⟩ (fun hHeld => ?_)
                       clear hK K
                       refine norm_ (a' := ?_) ?_ ?_
                       rotate_left
                       ·
                        show Act.put _ (some 89) _ = _
                        simp only [Act.put, List.setIfInBounds_toArray, List.set_cons_zero, List.set_cons_succ, i64_w, i32_w]
                        rfl
                       refine pz_ 12 90 q20_25 HT_ (by kernel_rfl) ?_
                       refine last_ (i := 13) (N := none) q20_26 rfl rfl (one_of HT_.out (by kernel_rfl)) (by decide) (fun K hK => ?_)
                       refine skip_ (w1 := ?_) (by rfl) rfl ?_ ?_
                       rotate_left
                       ·
                        go_simp
                        rfl
                       refine hK.out _ _ ?_
                       clear hK K
                       refine done_ (done_of HT_.out (by kernel_rfl)) ?_
                       try go_wp2
                       (try simp only [← hl4_5])
                       go_roundg k5
                       case measure => have := HK1.out; have := HK2.out; have := HK3.out; have := HK4.out; have := HK5.out; omega
                       case rel => exact ⟨(y144), (wrap64 (a4 + 1)), (by first | rfl | (simp; done) | (simp [*]; done)), H', ⟨by have := HK1.out; have := HK2.out; have := HK3.out; have := HK4.out; have := HK5.out; omega⟩, ⟨by (try simp only [hl4_5]); first | exact HQ55.out | exact upR HQ55.out⟩, ⟨by (try simp only [hl4_5]); (with_reducible repeat (first | apply yac | apply yad | apply yab)); exact yae (Kd.R_far (p := ⟨go52, (a4 : Int).toNat, none⟩) (Kd.R_types a5.out GG52.out (by decide)) (fun _ hk => hk.2) (.int .u64 f7)) (fun _ hk => trivial)⟩, ⟨by (try simp only [hl4_5]); (with_reducible repeat (first | apply yac | apply yad | apply yab)); exact yae (Kd.R_far (p := ⟨go52, (a4 : Int).toNat, none⟩) (yae a8.out (fun k_ hk => (⟨hk, fun e_ => hk.1 (by rw [e_]; rfl)⟩ : _ ∧ k_ ≠ go52))) (fun _ hk => hk.2) (.int .u64 f7)) (fun _ hk => ⟨hk.1.1, hk.1.2⟩)⟩, ⟨by (try simp only [hl4_5]); (with_reducible repeat (first | apply yac | apply yad | apply yab)); exact yae (Kd.R_far (p := ⟨go52, (a4 : Int).toNat, none⟩) (yae b0.out (fun k_ hk => (⟨hk, fun e_ => hk.1 (by rw [e_]; rfl)⟩ : _ ∧ k_ ≠ go52))) (fun _ hk => hk.2) (.int .u64 f7)) (fun _ hk => ⟨hk.1.1, hk.1.2⟩)⟩, ⟨by repeat (with_reducible first | exact HB.out | apply below_alloc | apply pw_below_drewN | apply below_drew1 | refine below_set ?_ (Aside0.out ‹_›))⟩⟩
                      ·
                       rw [if_neg c50] at H
                       exact absurd H (by simp)
                     ·
                      rw [if_neg c49] at H
                      exact absurd H (by simp)
                    ·
                     rw [if_neg c48] at H
                     exact absurd H (by simp)
                   ·
                    rw [if_neg c47] at H
                    have h9 : decide (a4 < 8) = false := decide_eq_false c47; clear c47; have H' := yaa H; clear H
                    go_wp2
                    (try simp only [← hl4_5])
                    go_roundg k5
                    case measure => have := HK1.out; have := HK2.out; have := HK3.out; have := HK4.out; have := HK5.out; omega
                    case rel => exact ⟨(d6), (wrap64 (a6 + 64)), (by first | rfl | (simp; done) | (simp [*]; done)), H', ⟨by have := HK1.out; have := HK2.out; have := HK3.out; have := HK4.out; have := HK5.out; omega⟩, ⟨by (try simp only [hl4_5]); (with_reducible repeat (first | apply yac | apply yad | apply yab)); exact yae a2.out (fun _ hk => hk.1)⟩, ⟨by (try simp only [hl4_5]); first | exact a5.out | exact upR a5.out⟩, ⟨by (try simp only [hl4_5]); (with_reducible repeat (first | apply yac | apply yad | apply yab)); exact yae a8.out (fun _ hk => hk.1)⟩, ⟨upH HB.out⟩⟩
             ·
              rw [if_neg c29] at H
              exact absurd H (by simp)
            ·
             rw [if_neg c27] at H
             exact absurd H (by simp)
           ·
            rw [if_neg c26] at H
            exact absurd H (by simp)
          ·
           rw [if_neg c25] at H
           exact absurd H (by simp)
         ·
          rw [if_neg c24] at H
          have f0 : decide (a6 < (a9.length : Int)) = false := decide_eq_false c24; clear c24; obtain ⟨y145, hy145⟩ : ∃ y_ : List Int, y_ = (([] : List Int)) := ⟨_, rfl⟩
          replace H : (spec_l1Sum.l5 k3 a3 y145 0) = some r := by first | (rw [hy145]; with_reducible exact H) | (have H2_ := (Option.bind_some _ _).symm.trans H; rw [hy145]; with_reducible exact H2_) | (have H2_ := (Option.bind_some _ _).symm.trans H; with_reducible exact H2_) | with_reducible exact H | (rw [hy145]; exact H) | exact H
          have Ny145 := yaa hy145; clear hy145; have H' := yaa H; clear H; obtain ⟨p8, p9, m8⟩ := Kd.R_slice a5.out; subst m8
          go_wp2_with (first | ((with_reducible refine gd_ 91 rfl ?_); refine Kd.R_lit (yag .u8) _ 5 ?hg (N := 91) ?hd (xs := ([] : List Int)) (inner := []) (ok := fun _ => True) (okp := fun _ => True) ?hr ?hp (fun _ hk => hk) trivial (Below.refl _ _) (Nat.le_refl _) (by simp) ?_; (case hd => rfl); (case hg => rfl); (case hr => first | (go_simp; done) | (go_simp; rfl)); (case hp => exact (Reps.none _ _)); intro q0 w57 f8 hb hg_ hnew_; clear hg_ hnew_; (first | rw [← Ny145.out] at f8 | (simp only [Int.reduceToNat] at f8; rw [← Ny145.out] at f8)); replace a2 := yaa (Kd.R_below (upR a2.out) hb); replace a8 := yaa (Kd.R_below (upR a8.out) hb); have j7 := yaa (Kd.R_lower (Kd.R_new' f8 (Kd.R_lt (upR a5.out))) (below_size (upH HB.out))); replace a5 := yaa (yai (upR a5.out) (Kd.R_base f8) hb); replace HB := yaa (below_step (upH HB.out) hb); clear hb f8))
          (try simp only [Act.put, List.setIfInBounds_toArray, List.set_cons_zero, List.set_cons_succ])
          go_loopg [14, 15] k3 (fun kq v14 v15 w' => ∃ (c9 : List Int) (a1 : Int), v15 = .int .i64 a1 ∧ yah (spec_l1Sum.l5 kq a3 c9 a1 = some r) ∧ yah (kq ≤ k3) ∧ yah (Kd.R (yag .u64) 40 w' w.heap.size (fun _ => True) u4 a3) ∧ yah (Kd.R (yag .u8) 5 w' w.heap.size (fun _ => True) v14 c9) ∧ yah (Below w.heap.size w w'))
          case atStart => exact ⟨(y145), (0), (by first | rfl | (simp; done) | (simp [*]; done)), H', ⟨Nat.le_refl _⟩, ⟨by (with_reducible repeat (first | apply yac | apply yad | apply yab)); exact yae a2.out (fun _ hk => trivial)⟩, ⟨by (with_reducible repeat (first | apply yac | apply yad | apply yab)); exact yae j7.out (fun _ hk => trivial)⟩, ⟨upH HB.out⟩⟩
          case round =>
           clear H'; (try clear c1); (try clear p1); (try clear q1); (try clear hx1); (try clear c2); (try clear p2); (try clear c3); (try clear q3); (try clear c4); (try clear c5); (try clear p5); (try clear q5); (try clear hx5); (try clear hf5); (try clear c6); (try clear f5); (try clear p6); (try clear c7); (try clear c7b0); (try clear c8); (try clear c8b0); (try clear c10); (try clear p10); (try clear q10); (try clear hx10); (try clear p11); (try clear q11); (try clear hx11); (try clear p13); (try clear q13); (try clear hx13); (try clear p14); (try clear q14); (try clear hx14); (try clear c17); (try clear e1); (try clear c18); (try clear c18b0); (try clear c19); (try clear c19b0); (try clear c20); (try clear c21); (try clear c24); (try clear f0); (try clear c25); (try clear g3); (try clear c25b1); (try clear c26); (try clear g4); (try clear g5); (try clear c27); (try clear g6); (try clear g7); (try clear c28); (try clear c29); (try clear c30); (try clear c31); (try clear q31); (try clear c37); (try clear g8); (try clear c38); (try clear c38b0); (try clear c39); (try clear c39b0); (try clear c40); (try clear c40b0); (try clear c47); (try clear h9); (try clear c48); (try clear c48b0); (try clear c49); (try clear c49b0); (try clear c50); (try clear c50b0); (try clear p52); (try clear q52); (try clear hx52); (try clear hf52); (try clear b8); (try clear d0); (try clear d1); (try clear d2); (try clear d3); (try clear e0); (try clear i1); (try clear p1); (try clear p10); (try clear p107); (try clear p11); (try clear p118); (try clear p13); (try clear p136); (try clear p137); (try clear p141); (try clear p142); (try clear p2); (try clear p52); (try clear p6); (try clear q031); (try clear q1); (try clear q10); (try clear q107); (try clear q11); (try clear q118); (try clear q13); (try clear q136); (try clear q137); (try clear q141); (try clear q142); (try clear q3); (try clear q31); (try clear q52); obtain ⟨c9, a1, rfl, HA, HK4, a2, b5, HB⟩ := hrel
           cases gk with
           | zero => exact absurd HA.out (by simp [spec_l1Sum.l5])
           | succ k4 =>
            have H := HA.out; clear HA
            simp only [spec_l1Sum.l5] at H
            by_cases c59 : a1 < 8
            ·
             rw [if_pos c59] at H
             have j8 : decide (a1 < 8) = true := decide_eq_true c59; clear c59
             by_cases c60 : 0 ≤ a1
             ·
              rw [if_pos c60] at H
              replace c60 := decide_eq_true c60
              by_cases c61 : a1 < (a3.length : Int)
              ·
               rw [if_pos c61] at H
               replace c61 := decide_eq_true c61; obtain ⟨y152, hy152⟩ : ∃ y_ : List Int, y_ = (([((rd a3 a1) / 16777216) % 256, ((rd a3 a1) / 65536) % 256, ((rd a3 a1) / 256) % 256, (rd a3 a1) % 256] : List Int)) := ⟨_, rfl⟩
               replace H : (if c9.length + y152.length < 140737488355328 then (spec_l1Sum.l5 k4 a3 (c9 ++ y152) (wrap64 (a1 + 1))) else (none)) = some r := by first | (rw [hy152]; with_reducible exact H) | (have H2_ := (Option.bind_some _ _).symm.trans H; rw [hy152]; with_reducible exact H2_) | (have H2_ := (Option.bind_some _ _).symm.trans H; with_reducible exact H2_) | with_reducible exact H | (rw [hy152]; exact H) | exact H
               have Ny152 := yaa hy152; clear hy152
               by_cases c62 : c9.length + y152.length < 140737488355328
               ·
                rw [if_pos c62] at H
                have LMc62 := yaa c62; clear c62; obtain ⟨y155, hy155⟩ : ∃ y_ : List Int, y_ = (c9 ++ y152) := ⟨_, rfl⟩
                replace H : (spec_l1Sum.l5 k4 a3 y155 (wrap64 (a1 + 1))) = some r := by first | (rw [hy155]; with_reducible exact H) | (have H2_ := (Option.bind_some _ _).symm.trans H; rw [hy155]; with_reducible exact H2_) | (have H2_ := (Option.bind_some _ _).symm.trans H; with_reducible exact H2_) | with_reducible exact H | (rw [hy155]; exact H) | exact H
                have Ny155 := yaa hy155; clear hy155; have H' := yaa H; clear H
                try go_wp2
                replace a2 := yaa (yab a2.out); replace b5 := yaa (yab b5.out); replace HB := yaa (below_drew1 HB.out); obtain ⟨q6, q7, j9⟩ := Kd.R_slice a2.out
                (first | subst j9 | (injection j9 with f1_ f2_ f3_; have f4_ := f1_.symm; have f5_ := f3_.symm; clear f1_ f2_ f3_; subst f4_; subst f5_))
                have p148 : 0 ≤ (a1 : Int) := of_decide_eq_true (by assumption); have q148 : a1 < (a3.length : Int) := of_decide_eq_true (by assumption); obtain ⟨ad148, m9, f1⟩ := Kd.at_int (yaf a2.out).2.2 a1 p148 q148
                cases m9
                replace p148 := eq_true p148; replace q148 := eq_true q148; have p149 : 0 ≤ (a1 : Int) := of_decide_eq_true (by assumption); have q149 : a1 < (a3.length : Int) := of_decide_eq_true (by assumption); obtain ⟨ad149, n0, f2⟩ := Kd.at_int (yaf a2.out).2.2 a1 p149 q149; obtain rfl : ad148 = ad149 := (by injection n0); replace p149 := eq_true p149; replace q149 := eq_true q149; have p150 : 0 ≤ (a1 : Int) := of_decide_eq_true (by assumption); have q150 : a1 < (a3.length : Int) := of_decide_eq_true (by assumption); obtain ⟨ad150, n1, f3⟩ := Kd.at_int (yaf a2.out).2.2 a1 p150 q150; obtain rfl : ad148 = ad150 := (by injection n1); replace p150 := eq_true p150; replace q150 := eq_true q150; have p151 : 0 ≤ (a1 : Int) := of_decide_eq_true (by assumption); have q151 : a1 < (a3.length : Int) := of_decide_eq_true (by assumption); obtain ⟨ad151, n2, f4⟩ := Kd.at_int (yaf a2.out).2.2 a1 p151 q151; obtain rfl : ad148 = ad151 := (by injection n2); replace p151 := eq_true p151; replace q151 := eq_true q151
                refine start_ (n := 27) (S := fun w' => w'.cell? (ad148.add (a1).toNat) = some (.int .u64 (rd a3 a1)) ∧ w'.cell? (ad148.add (a1).toNat) = some (.int .u64 (rd a3 a1)) ∧ w'.cell? (ad148.add (a1).toNat) = some (.int .u64 (rd a3 a1)) ∧ w'.cell? (ad148.add (a1).toNat) = some (.int .u64 (rd a3 a1))) (ds := [25]) q20_27 (by kernel_rfl) rfl rfl ⟨f1, f2, f3, f4⟩ (fun hHeld => ?_); refine with_tabW spec_l1Sum.tab30 spec_l1Sum.bits30 (fun HT_ HW_ => ?_)
                generalize wr.drew = w63 at a2 b5 HB f1 f2 f3 f4 hHeld ⊢
                refine pz_ 0 96 q20_28 HT_ (by kernel_rfl) ?_
                refine pz_ 1 97 q20_29 HT_ (by kernel_rfl) ?_
                refine pz_ 2 98 q20_30 HT_ (by kernel_rfl) ?_
                refine pz_ 3 99 q20_31 HT_ (by kernel_rfl) ?_
                refine pz_ 7 103 q20_32 HT_ (by kernel_rfl) ?_
                refine pz_ 8 104 q20_33 HT_ (by kernel_rfl) ?_
                refine pz_ 9 105 q20_34 HT_ (by kernel_rfl) ?_
                refine pz_ 13 109 q20_35 HT_ (by kernel_rfl) ?_
                refine pz_ 14 110 q20_36 HT_ (by kernel_rfl) ?_
                refine pz_ 15 111 q20_37 HT_ (by kernel_rfl) ?_
                refine pz_ 19 115 q20_38 HT_ (by kernel_rfl) ?_
                refine pz_ 20 116 q20_39 HT_ (by kernel_rfl) ?_
                refine pz_ 21 117 q20_40 HT_ (by kernel_rfl) ?_
                refine tz_ 4 100 q20_41 HT_ HW_ (by kernel_rfl) hHeld ?_
                refine pz_ 5 101 q20_42 HT_ (by kernel_rfl) ?_
                refine pz_ 6 102 q20_43 HT_ (by kernel_rfl) ?_
                refine tz_ 10 106 q20_44 HT_ HW_ (by kernel_rfl) hHeld ?_
                refine pz_ 11 107 q20_45 HT_ (by kernel_rfl) ?_
                refine pz_ 12 108 q20_46 HT_ (by kernel_rfl) ?_
                refine tz_ 16 112 q20_47 HT_ HW_ (by kernel_rfl) hHeld ?_
                refine pz_ 17 113 q20_48 HT_ (by kernel_rfl) ?_
                refine pz_ 18 114 q20_49 HT_ (by kernel_rfl) ?_
                refine tz_ 22 118 q20_50 HT_ HW_ (by kernel_rfl) hHeld ?_
                refine pz_ 23 119 q20_51 HT_ (by kernel_rfl) ?_
                refine one_ (i := 24) (N := some 120) q20_52 rfl rfl (one_of HT_.out (by kernel_rfl)) (by decide) (fun K hK => ?_)
                refine Kd.R_lit_step (yag .u8) _ 5 ?hg (N := 120) ?hd (xs := ([((rd a3 a1) / 16777216) % 256, ((rd a3 a1) / 65536) % 256, ((rd a3 a1) / 256) % 256, (rd a3 a1) % 256] : List Int)) (inner := [.int .u8 (((rd a3 a1) / 16777216) % 256), .int .u8 (((rd a3 a1) / 65536) % 256), .int .u8 (((rd a3 a1) / 256) % 256), .int .u8 ((rd a3 a1) % 256)]) (ok := fun _ => True) (okp := fun _ => True) ?hr ?hp (fun _ hk => hk) trivial (Below.refl _ _) (Nat.le_refl _) (by simp) ?_; (case hd => rfl); (case hg => rfl); (case hr => first | (go_simp; done) | (go_simp; rfl)); (case hp => exact (Reps.one (show Kd.M (yag .u8) _ _ _ (((rd a3 a1) / 16777216) % 256) [.int .u8 (((rd a3 a1) / 16777216) % 256)] from rfl) (Reps.one (show Kd.M (yag .u8) _ _ _ (((rd a3 a1) / 65536) % 256) [.int .u8 (((rd a3 a1) / 65536) % 256)] from rfl) (Reps.one (show Kd.M (yag .u8) _ _ _ (((rd a3 a1) / 256) % 256) [.int .u8 (((rd a3 a1) / 256) % 256)] from rfl) (Reps.one (show Kd.M (yag .u8) _ _ _ ((rd a3 a1) % 256) [.int .u8 ((rd a3 a1) % 256)] from rfl) (Reps.none _ _))))))
                intro q8 w65 f9 hb hg_ hnew_; have HS0_ := (hb.cell (World.block_lt_of_cell? _ _ (hHeld.1))).trans (hHeld.1); have HS1_ := (hb.cell (World.block_lt_of_cell? _ _ (hHeld.2.1))).trans (hHeld.2.1); have HS2_ := (hb.cell (World.block_lt_of_cell? _ _ (hHeld.2.2.1))).trans (hHeld.2.2.1); have HS3_ := (hb.cell (World.block_lt_of_cell? _ _ (hHeld.2.2.2))).trans (hHeld.2.2.2); clear hg_ hnew_
                (first | rw [← Ny152.out] at f9 | (simp only [Int.reduceToNat] at f9; rw [← Ny152.out] at f9))
                replace a2 := yaa (Kd.R_below (upR a2.out) hb); have e5 := yaa (Kd.R_lower (Kd.R_new' f9 (Kd.R_lt (upR b5.out))) (below_size (upH HB.out))); replace b5 := yaa (yai (upR b5.out) (Kd.R_base f9) hb); replace HB := yaa (below_step (upH HB.out) hb); clear hb f9; obtain ⟨n3, n4, k0⟩ := Kd.R_slice e5.out
                (first | subst k0 | (injection k0 with f1_ f2_ f3_; have f4_ := f1_.symm; have f5_ := f3_.symm; clear f1_ f2_ f3_; subst f4_; subst f5_))
                refine hK.out _ _ ⟨HS0_, HS1_, HS2_, HS3_⟩ (fun hHeld => ?_)
                clear hK K
                refine norm_ (a' := ?_) ?_ ?_
                rotate_left
                ·
                 show Act.put _ (some 120) _ = _
                 simp only [Act.put, List.setIfInBounds_toArray, List.set_cons_zero, List.set_cons_succ, i64_w, i32_w]
                 rfl
                refine last_ (i := 25) (N := some 121) q20_53 rfl rfl (one_of HT_.out (by kernel_rfl)) (by decide) (fun K hK => ?_)
                refine Kd.R_append_rows_step (yag .u8) (w0 := w) w.heap.size (by rfl) (.tmp 96) (.tmp 120) 22 5 (.int .u8 0) 1 rfl Tryd.underlying22 info5 rfl (by decide) (by omega) u14 c9 y152 _ _ _ (fun k_ => some k_ ≠ (.slice n3 y152.length n4 : Value).ownBlock) (fun _ => False) rfl rfl ?aO ?aR (fun _ _ h => h) (fun _ h => h.elim) ?aF ?aB ?aS ?aL ?_
                (case aR => repeat (first | exact (yaf e5.out).2.2 | (with_reducible refine Kd.C_alloc ?_ _) | (with_reducible refine Kd.C_drewN ?_ _) | (with_reducible refine Kd.C_drew ?_)))
                (case aB => exact (upH HB.out))
                (case aF => exact (fun k_ hk => Kd.fresh' (Kd.R_lt (upR e5.out)) k_ hk))
                (case aO => exact (by (with_reducible repeat (first | apply yac | apply yad | apply yab)); exact yae b5.out (fun _ hk => by first | exact hk.2 | exact True.intro)))
                (case aS => exact (below_size (upH HB.out)))
                (case aL => have := LMc62.out; omega)
                intro q9 w67 ho hb hg hat
                rw [← Ny155.out] at ho
                replace a2 := yaa (Kd.R_over' (upR a2.out) (Kd.R_typed (upR b5.out)) (by decide) hg); replace e5 := yaa (Kd.R_after (ok := (fun _ => True)) (upR e5.out) hg hat); replace HB := yaa (hb); have k6 := yaa (ho); clear b5; clear ho hb hg hat
                refine hK.out _ _ ?_
                clear hK K
                refine norm_ (a' := ?_) ?_ ?_
                rotate_left
                ·
                 show Act.put _ (some 121) _ = _
                 simp only [Act.put, List.setIfInBounds_toArray, List.set_cons_zero, List.set_cons_succ, i64_w, i32_w]
                 rfl
                refine pz_ 26 14 q20_54 HT_ (by kernel_rfl) ?_
                refine done_ (done_of HT_.out (by kernel_rfl)) ?_
                try go_wp2
                go_roundg k4
                case measure => have := HK1.out; have := HK2.out; have := HK3.out; have := HK4.out; omega
                case rel => exact ⟨(y155), (wrap64 (a1 + 1)), (by first | rfl | (simp; done) | (simp [*]; done)), H', ⟨by have := HK1.out; have := HK2.out; have := HK3.out; have := HK4.out; omega⟩, ⟨by first | exact a2.out | exact upR a2.out⟩, ⟨by (with_reducible repeat (first | apply yac | apply yad | apply yab)); exact yae k6.out (fun _ hk => trivial)⟩, ⟨upH HB.out⟩⟩
               ·
                rw [if_neg c62] at H
                exact absurd H (by simp)
              ·
               rw [if_neg c61] at H
               exact absurd H (by simp)
             ·
              rw [if_neg c60] at H
              exact absurd H (by simp)
            ·
             rw [if_neg c59] at H
             have j8 : decide (a1 < 8) = false := decide_eq_false c59; clear c59; obtain rfl := Option.some.inj H
             go_wp2
             go_ret
             exact ⟨_, by first | rfl | (simp [*, errW_none, errW_some] <;> rfl), by first | exact b5.out | exact upR b5.out, upH HB.out⟩
end
section
def spec_ShaSum.f (k : Nat) (l0 : List Int) : Option (List Int) := if (l0.length : Int) > 500 then (some (([] : List Int))) else ((spec_l1Sum.f k l0).bind fun t104 => (some t104))
set_option maxHeartbeats 8000000 in
set_option maxRecDepth 100000 in
theorem spec_ShaSum.calls (k : Nat) (A0 : Option Addr) (c0 : Nat) (l0 : List Int) (r : List Int) (w : World) (hr0 : Kd.C (Kd.int .u8) w A0 l0.length l0) (hc0 : l0.length ≤ c0) (h : spec_ShaSum.f k l0 = some r) :
    Calls Tryd.prog 8 #[.slice A0 l0.length c0] w fun e w' => ∃ v0_ : Value, e = .returned (v0_) ∧ Kd.R (Kd.int .u8) 5 w' w.heap.size (fun _ => True) v0_ r ∧ Below w.heap.size w w' := by
  have HR0 := Aside0.mk hr0; have HC0 := Aside0.mk hc0; clear hr0 hc0; have HB := Aside0.mk (Below.refl w.heap.size w); have H : (if (l0.length : Int) > 500 then (some (([] : List Int))) else ((spec_l1Sum.f k l0).bind fun t104 => (some t104))) = some r := h; clear h
  by_cases c2 : (l0.length : Int) > 500
  · rw [if_pos c2] at H
    have c2b0 : decide (500 < (l0.length : Int)) = true := decide_eq_true c2; have c2b1 : decide (500 < l0.length) = true := decide_eq_true (by omega); clear c2; obtain ⟨y101, hy101⟩ : ∃ y_ : List Int, y_ = (([] : List Int)) := ⟨_, rfl⟩
    replace H : (some y101) = some r := by first | (rw [hy101]; with_reducible exact H) | (have H2_ := (Option.bind_some _ _).symm.trans H; rw [hy101]; with_reducible exact H2_) | (have H2_ := (Option.bind_some _ _).symm.trans H; with_reducible exact H2_) | with_reducible exact H | (rw [hy101]; exact H) | exact H
    have Ny101 := Aside0.mk hy101; clear hy101; obtain rfl := Option.some.inj H
    go_enter Tryd.func8, Tryd.ntmps8
    go_wp2_with (first | ((with_reducible refine gd_ 6 rfl ?_); refine Kd.R_lit (Kd.int .u8) _ 5 ?hg (N := 6) ?hd (xs := ([] : List Int)) (inner := []) (ok := fun _ => True) (okp := fun _ => True) ?hr ?hp (fun _ hk => hk) trivial (Below.refl _ _) (Nat.le_refl _) (by simp) ?_; (case hd => rfl); (case hg => rfl); (case hr => first | (go_simp; done) | (go_simp; rfl)); (case hp => exact (Reps.none _ _)); intro v102 w3 ho4 hb hg_ hnew_; clear hg_ hnew_; (first | rw [← Ny101.out] at ho4 | (simp only [Int.reduceToNat] at ho4; rw [← Ny101.out] at ho4)); have HO103 := Aside0.mk (Kd.R_lower ho4 (below_size (upH HB.out))); replace HB := Aside0.mk (below_step (upH HB.out) hb); clear hb ho4))
    go_ret
    exact ⟨_, by first | rfl | (simp [*, errW_none, errW_some] <;> rfl), by first | exact HO103.out | exact upR HO103.out, upH HB.out⟩
  · rw [if_neg c2] at H
    have c2b0 : decide (500 < (l0.length : Int)) = false := decide_eq_false c2; have c2b1 : decide (500 < l0.length) = false := decide_eq_false (by omega); clear c2; obtain ⟨t104, A5, H⟩ := bindA H; (try dsimp only at H); obtain rfl := Option.some.inj H
    go_enter Tryd.func8, Tryd.ntmps8
    go_wp2_with (first | ((with_reducible refine gc_ 20 rfl ?_); refine gl_ (some 8) rfl Tryd.func20 #[.slice A0 l0.length c0] ?_; (with_reducible refine (spec_l1Sum.calls k _ _ l0 t104 _ ?side1 ?side2 A5.out).mono ?_); (case side1 => repeat (first | exact HR0.out | (with_reducible refine Kd.C_alloc ?_ _) | (with_reducible refine Kd.C_drewN ?_ _) | (with_reducible refine Kd.C_drew ?_))); (case side2 => exact HC0.out); rintro e w6 ⟨v105, rfl, ho0, hb⟩; refine ⟨_, rfl, ?_⟩; have HO106 := Aside0.mk (Kd.R_lower ho0 (below_size (upH HB.out))); replace HB := Aside0.mk (below_step (upH HB.out) hb); (try clear hb ho0)))
    go_ret
    exact ⟨_, by first | rfl | (simp [*, errW_none, errW_some] <;> rfl), by first | exact HO106.out | exact upR HO106.out, upH HB.out⟩
end
section
/-- A state of type 51 at block g of W; what its slices lead to came in by w0. -/
def IsS51 (w0 W : World) (g : Nat) (f0 : List Int) (f1 : Int) : Prop := ∃ A0 c0, W.heap[g]? = some (.cells #[.slice A0 f0.length c0, .int .i64 f1] 51 (0, 0)) ∧ w0.heap.size ≤ g ∧ Kd.C (Kd.int .u8) w0 A0 f0.length f0
theorem IsS51.grown {w0 W : World} {g : Nat} {f0 : List Int} {f1 : Int} {W1 : World} {row : Option Nat} (h : IsS51 w0 W g f0 f1) (hw : W.grownBy W1 row) (hne : some g ≠ row) : IsS51 w0 W1 g f0 f1 := by
  obtain ⟨A0, c0, hb, hg, hr0⟩ := h
  exact ⟨A0, c0, blk_grown hb hw hne, hg, hr0⟩
theorem IsS51.kept {w0 W : World} {g : Nat} {f0 : List Int} {f1 : Int} {W1 : World} {S : Nat → Prop} (h : IsS51 w0 W g f0 f1) (hk : Kept W W1 S) (hne : ¬ S g) : IsS51 w0 W1 g f0 f1 := by
  obtain ⟨A0, c0, hb, hg, hr0⟩ := h
  exact ⟨A0, c0, blk_kept hb hk hne, hg, hr0⟩
theorem IsS51.below {w0 W : World} {g : Nat} {f0 : List Int} {f1 : Int} {W1 : World} (h : IsS51 w0 W g f0 f1) (hw : Below W.heap.size W W1) : IsS51 w0 W1 g f0 f1 := h.grown (grown_of_below hw none) (by simp)
theorem IsS51.alloc {w0 W : World} {g : Nat} {f0 : List Int} {f1 : Int} (h : IsS51 w0 W g f0 f1) (o : Obj) : IsS51 w0 (W.alloc o) g f0 f1 := h.below (below_alloc (Below.refl _ _) o)
theorem IsS51.drewN {w0 W : World} {g : Nat} {f0 : List Int} {f1 : Int} (h : IsS51 w0 W g f0 f1) (m : Nat) : IsS51 w0 (W.drewN m) g f0 f1 := h
theorem IsS51.drew {w0 W : World} {g : Nat} {f0 : List Int} {f1 : Int} (h : IsS51 w0 W g f0 f1) : IsS51 w0 W.drew g f0 f1 := h
theorem IsS51.at_ {w0 W : World} {g : Nat} {f0 : List Int} {f1 : Int} {w' : World} {m : Nat} (hq : W.drewN m = w') (h : IsS51 w0 W g f0 f1) : IsS51 w0 w' g f0 f1 := by subst hq; exact IsS51.drewN h m
theorem IsS51.apart {w0 W : World} {g : Nat} {f0 : List Int} {f1 : Int} {α : Type} {d : Kd α} {e : Nat} {base : Nat} {ok : Nat → Prop} {v : Value} {xs : List α} (h : IsS51 w0 W g f0 f1) (ho : d.R e W base ok v xs) (ht : ∀ q, q ∈ e :: d.E → q ≠ 51) : d.R e W base (fun k => ok k ∧ k ≠ g) v xs := by
  obtain ⟨A0, c0, hb, hg, hr0⟩ := h
  exact Kd.R_types ho hb ht
theorem IsS51.own_ne {w0 W : World} {g : Nat} {f0 : List Int} {f1 : Int} {α : Type} {d : Kd α} {e : Nat} {base : Nat} {ok : Nat → Prop} {v : Value} {xs : List α} (h : IsS51 w0 W g f0 f1) (ho : d.R e W base ok v xs) (ht : e ≠ 51) : some g ≠ v.ownBlock := by
  obtain ⟨A0, c0, hb, hg, hr0⟩ := h
  exact Kd.R_ne ho hb ht
theorem IsS51.lt {w0 W : World} {g : Nat} {f0 : List Int} {f1 : Int} (h : IsS51 w0 W g f0 f1) : g < W.heap.size := by
  obtain ⟨A0, c0, hb, hg, hr0⟩ := h
  exact blk_lt hb
theorem IsS51.ge {w0 W : World} {g : Nat} {f0 : List Int} {f1 : Int} (h : IsS51 w0 W g f0 f1) : w0.heap.size ≤ g := by
  obtain ⟨A0, c0, hb, hg, hr0⟩ := h
  exact hg
theorem cellS51_0 {W : World} {g : Nat} {A0 : Option Addr} {c0 : Nat} {f0 : List Int} {f1 : Int} (h : W.heap[g]? = some (.cells #[.slice A0 f0.length c0, .int .i64 f1] 51 (0, 0))) : W.cell? ⟨g, 0, none⟩ = some (.slice A0 f0.length c0) := (blk_cell h 0).trans rfl
theorem cellS51_1 {W : World} {g : Nat} {A0 : Option Addr} {c0 : Nat} {f0 : List Int} {f1 : Int} (h : W.heap[g]? = some (.cells #[.slice A0 f0.length c0, .int .i64 f1] 51 (0, 0))) : W.cell? ⟨g, 1, none⟩ = some (.int .i64 f1) := (blk_cell h 1).trans rfl
theorem IsS51.set_1 {w0 W : World} {g : Nat} {f0 : List Int} {f1 : Int} (h : IsS51 w0 W g f0 f1) (x : Int) : IsS51 w0 (W.setCell ⟨g, 1, none⟩ (.int .i64 x)) g f0 x := by
  obtain ⟨A0, c0, hb, hg, hr0⟩ := h
  exact ⟨A0, c0, by simpa using blk_set hb 1 (.int .i64 x), hg, hr0⟩
theorem IsS51.new (w0 W : World) (A0 : Option Addr) (c0 : Nat) (f0 : List Int) (f1 : Int) (hB : Below w0.heap.size w0 W) (hr0 : Kd.C (Kd.int .u8) w0 A0 f0.length f0) : IsS51 w0 (W.alloc (.cells #[.slice A0 f0.length c0, .int .i64 f1] 51)) W.heap.size f0 f1 := ⟨A0, c0, by simpa using heap_alloc_new W _, hB.size, hr0⟩

open Go.Proofs.YtfinaphomgdmlaaDoorW.PrintWords.Aside0 renaming mk → yaa

def spec_l20Open.f (l0 : List Int) : Option (List Int × Int) := if (l0.length : Int) > 2000 then (if 2000 ≤ (l0.length : Int) then (some (l0.take 2000, 0)) else (none)) else (some (l0, 0))
set_option maxHeartbeats 8000000 in
set_option maxRecDepth 100000 in
theorem spec_l20Open.calls (A0 : Option Addr) (c0 : Nat) (l0 : List Int) (r1 : List Int) (r2 : Int) (w0 w : World) (hB : Below w0.heap.size w0 w) (hr0 : Kd.C (Kd.int .u8) w0 A0 l0.length l0) (hc0 : l0.length ≤ c0) (h : spec_l20Open.f l0 = some (r1, r2)) :
  Calls Tryd.prog 22 #[.slice A0 l0.length c0] w fun e w' => ∃ g_ : Nat, e = .returned (.pointer (some ⟨g_, 0, none⟩)) ∧ IsS51 w0 w' g_ r1 r2 ∧ Below w0.heap.size w0 w' ∧ Below w.heap.size w w' := by
 have hu51 := Tryd.underlying51; have HR0 := yaa hr0; have HC0 := yaa hc0; clear hr0 hc0; have HBW := yaa (Below.refl w.heap.size w); have HW0 := yaa hB.size; have HB := yaa hB; clear hB; have H : (if (l0.length : Int) > 2000 then (if 2000 ≤ (l0.length : Int) then (some (l0.take 2000, 0)) else (none)) else (some (l0, 0))) = some (r1, r2) := h; clear h
 by_cases c2 : (l0.length : Int) > 2000
 ·
  rw [if_pos c2] at H
  have a7 : decide (2000 < (l0.length : Int)) = true := decide_eq_true c2; have a8 : decide (2000 < l0.length) = true := decide_eq_true (by omega); clear c2
  by_cases c3 : 2000 ≤ (l0.length : Int)
  ·
   rw [if_pos c3] at H
   have b1 := eq_true c3; replace c3 := decide_eq_true c3
   simp only [Option.some.injEq, Prod.mk.injEq] at H
   obtain ⟨rfl, rfl⟩ := H; obtain ⟨i04, hi04, _, a2, _⟩ := info_parts info5; obtain ⟨hcut4, hA4, hC4⟩ := print_take_of (P := Tryd.prog) (Value.int .u8) 0 22 5 .i64 Tryd.underlying22 hi04 a2 A0 c0 l0 2000 (by omega) (of_decide_eq_true (by assumption)) HC0.out; have HR101 := yaa (Kd.C_of_reads (h1 := fun _ => rfl) (hA4 _ (Kd.reads_of_C HR0.out))); have HC101 := yaa hC4; clear hA4 hC4 hi04 a2
   go_enter Tryd.func22, Tryd.ntmps22
   go_wp2_with (first | ((with_reducible refine gd_ 10 rfl ?_); refine bx_ 10 rfl #[.slice A0 (l0.take 2000).length c0, .int .i64 0] 51 ?_; intro a0 hg w5 hbox hb; replace HB := yaa (below_step (upH HB.out) hb); have a3 := yaa (hbox); have a9 := yaa ((by rw [hg]; exact (below_size (upH HBW.out)) : w.heap.size ≤ a0)); have a4 := yaa ((Nat.le_trans HW0.out (by rw [hg]; exact (below_size (upH HBW.out)) : w.heap.size ≤ a0) : w0.heap.size ≤ a0)); replace HBW := yaa (below_step HBW.out hb); clear hb hbox hg))
   go_ret
   exact ⟨_, rfl, (show IsS51 w0 _ a0 (l0.take 2000) 0 from ⟨_, _, by exact upB a3.out, a4.out, HR101.out⟩), by repeat (with_reducible first | exact HB.out | apply below_alloc | apply pw_below_drewN | apply below_drew1 | refine below_set ?_ (Aside0.out ‹_›)), by repeat (with_reducible first | exact HBW.out | apply below_alloc | apply pw_below_drewN | apply below_drew1 | refine below_set ?_ (Aside0.out ‹_›))⟩
  ·
   rw [if_neg c3] at H
   exact absurd H (by simp)
 ·
  rw [if_neg c2] at H
  have a7 : decide (2000 < (l0.length : Int)) = false := decide_eq_false c2; have a8 : decide (2000 < l0.length) = false := decide_eq_false (by omega); clear c2
  simp only [Option.some.injEq, Prod.mk.injEq] at H
  obtain ⟨rfl, rfl⟩ := H
  go_enter Tryd.func22, Tryd.ntmps22
  go_wp2_with (first | ((with_reducible refine gd_ 10 rfl ?_); refine bx_ 10 rfl #[.slice A0 l0.length c0, .int .i64 0] 51 ?_; intro a1 hg w6 hbox hb; replace HB := yaa (below_step (upH HB.out) hb); have a5 := yaa (hbox); have b0 := yaa ((by rw [hg]; exact (below_size (upH HBW.out)) : w.heap.size ≤ a1)); have a6 := yaa ((Nat.le_trans HW0.out (by rw [hg]; exact (below_size (upH HBW.out)) : w.heap.size ≤ a1) : w0.heap.size ≤ a1)); replace HBW := yaa (below_step HBW.out hb); clear hb hbox hg))
  go_ret
  exact ⟨_, rfl, (show IsS51 w0 _ a1 l0 0 from ⟨_, _, by exact upB a5.out, a6.out, HR0.out⟩), by repeat (with_reducible first | exact HB.out | apply below_alloc | apply pw_below_drewN | apply below_drew1 | refine below_set ?_ (Aside0.out ‹_›)), by repeat (with_reducible first | exact HBW.out | apply below_alloc | apply pw_below_drewN | apply below_drew1 | refine below_set ?_ (Aside0.out ‹_›))⟩
end
section
def spec_l20Rd_pick.j0 : Nat → Int → Bool → List Int → Int → Option (Int × Int)
 | 0, _, _, _, _ => none
 | k + 1, x1, x24, x1000, x1001 => if x24 = true then (some (0, x1001)) else (if (wrap64 (x1001 - 1)) < (x1000.length : Int) then (if 0 ≤ (wrap64 (x1001 - 1)) then (if x1 = 0 then (none) else (some (Int.tmod (wrap64 (rd x1000 (wrap64 (x1001 - 1)))) x1, x1001))) else (none)) else (if (x1000.length : Int) = 0 then (none) else (if 0 ≤ (Int.tmod (wrap64 (x1001 - 1)) (x1000.length : Int)) then (if (Int.tmod (wrap64 (x1001 - 1)) (x1000.length : Int)) < (x1000.length : Int) then (if 0 ≤ (Int.tmod (wrap64 ((wrap64 ((wrap64 (x1001 - 1)) * 7)) + 3)) (x1000.length : Int)) then (if (Int.tmod (wrap64 ((wrap64 ((wrap64 (x1001 - 1)) * 7)) + 3)) (x1000.length : Int)) < (x1000.length : Int) then (if x1 = 0 then (none) else (some (Int.tmod (Go.bits .xor .i64 (wrap64 ((wrap64 ((wrap64 ((wrap64 ((wrap64 (rd x1000 (Int.tmod (wrap64 (x1001 - 1)) (x1000.length : Int)))) * 131)) + (wrap64 ((wrap64 (rd x1000 (Int.tmod (wrap64 ((wrap64 ((wrap64 (x1001 - 1)) * 7)) + 3)) (x1000.length : Int)))) * 1117)))) + (wrap64 ((wrap64 (x1001 - 1)) * 29)))) + (wrap64 ((wrap64 (Int.tdiv (wrap64 (x1001 - 1)) (x1000.length : Int))) * 53)))) (wrap64 (Int.tdiv (wrap64 ((wrap64 ((wrap64 ((wrap64 ((wrap64 (rd x1000 (Int.tmod (wrap64 (x1001 - 1)) (x1000.length : Int)))) * 131)) + (wrap64 ((wrap64 (rd x1000 (Int.tmod (wrap64 ((wrap64 ((wrap64 (x1001 - 1)) * 7)) + 3)) (x1000.length : Int)))) * 1117)))) + (wrap64 ((wrap64 (x1001 - 1)) * 29)))) + (wrap64 ((wrap64 (Int.tdiv (wrap64 (x1001 - 1)) (x1000.length : Int))) * 53)))) 64))) x1, x1001))) else (none)) else (none)) else (none)) else (none))))
def spec_l20Rd_pick.f (k : Nat) (s0_0 : List Int) (s0_1 : Int) (a1 : Int) : Option (Int × Int) := if a1 < 1 then (spec_l20Rd_pick.j0 k a1 true s0_0 (wrap64 (s0_1 + 1))) else (spec_l20Rd_pick.j0 k a1 ((s0_0.length : Int) == 0) s0_0 (wrap64 (s0_1 + 1)))
set_option maxHeartbeats 8000000 in
set_option maxRecDepth 100000 in
theorem spec_l20Rd_pick.calls (k : Nat) (g : Nat) (s0_0 : List Int) (s0_1 : Int) (a1 : Int) (r1 : Int) (r2 : Int) (w0 w : World) (hI : IsS51 w0 w g s0_0 s0_1) (hB : Below w0.heap.size w0 w) (h : spec_l20Rd_pick.f k s0_0 s0_1 a1 = some (r1, r2)) :
  Calls Tryd.prog 25 #[.pointer (some ⟨g, 0, none⟩), .int .i64 a1] w fun e w' => e = .returned (.int .i64 r1) ∧ IsS51 w0 w' g s0_0 r2 ∧ Below w0.heap.size w0 w' ∧ KeepBut w w' g none := by
 have HI0 := Aside0.mk hI; have HK := Aside0.mk (KeepBut.refl w g none); have HL := Aside0.mk hB.size; clear hI; have HW0 := Aside0.mk hB.size; have HB := Aside0.mk hB; clear hB; have H : (if a1 < 1 then (spec_l20Rd_pick.j0 k a1 true s0_0 (wrap64 (s0_1 + 1))) else (spec_l20Rd_pick.j0 k a1 ((s0_0.length : Int) == 0) s0_0 (wrap64 (s0_1 + 1)))) = some (r1, r2) := h; clear h; have HC3 := Aside0.mk H; clear H; obtain ⟨d1, d2, HGz4, hgz4, HSz4_0⟩ := HI0.out; have b0 := cellS51_0 HGz4; have b1 := cellS51_1 HGz4; have b2 := blk_frozen HGz4 1; clear HGz4 hgz4
 go_enter Tryd.func25, Tryd.ntmps25
 go_upto_region 2 with (fail)
 repeat (go_quiet (fail); go_upto_region 2 with (fail))
 go_cut [24] (fun v24 wc => ∃ (kq : Nat) (a5 : Bool), v24 = .bool a5 ∧ Aside0 (spec_l20Rd_pick.j0 kq a1 a5 s0_0 (wrap64 (s0_1 + 1)) = some (r1, r2)) ∧ Aside0 (kq ≤ k) ∧ Aside0 (IsS51 w0 wc g s0_0 (wrap64 (s0_1 + 1))) ∧ Aside0 (KeepBut w wc g none) ∧ Aside0 (Below w0.heap.size w0 wc))
 case first =>
  have H := HC3.out; clear HC3
  by_cases c5 : a1 < 1
  ·
   rw [if_pos c5] at H
   have a9 : decide (a1 < 1) = true := decide_eq_true c5; clear c5
   (first | rw [a9] | (simp only [i64_w, i32_w]; rw [a9]) | skip)
   have H' := Aside0.mk H; clear H
   go_wp2
   repeat (go_quiet (fail); try go_wp2)
   go_meet
   case rel => exact ⟨_, (true), (by first | rfl | (simp; done) | (simp [*]; done)), H', ⟨by first | omega | exact Nat.le_refl _⟩, ⟨by repeat (with_reducible first | exact HI0.out | apply IsS51.alloc | apply IsS51.drewN | apply IsS51.drew | apply IsS51.set_1)⟩, ⟨by repeat (with_reducible first | exact HK.out | apply KeepBut.set_ | apply keep_drewN | apply keep_drew | apply keep_alloc)⟩, ⟨by repeat (with_reducible first | exact HB.out | apply below_alloc | apply pw_below_drewN | apply below_drew1 | refine below_set ?_ (IsS51.ge HI0.out))⟩⟩
  ·
   rw [if_neg c5] at H
   have a9 : decide (a1 < 1) = false := decide_eq_false c5; clear c5
   (first | rw [a9] | (simp only [i64_w, i32_w]; rw [a9]) | skip)
   have H' := Aside0.mk H; clear H; obtain ⟨d3, d4, HGz6, hgz6, HSz6_0⟩ := HI0.out; have b3 := cellS51_0 HGz6; have b4 := cellS51_1 HGz6; have b5 := blk_frozen HGz6 1; clear HGz6 hgz6
   go_wp2
   repeat (go_quiet (fail); try go_wp2)
   go_meet
   case rel => exact ⟨_, (((s0_0.length : Int) == 0)), (by first | rfl | (simp; done) | (simp [*]; done)), H', ⟨by first | omega | exact Nat.le_refl _⟩, ⟨by repeat (with_reducible first | exact HI0.out | apply IsS51.alloc | apply IsS51.drewN | apply IsS51.drew | apply IsS51.set_1)⟩, ⟨by repeat (with_reducible first | exact HK.out | apply KeepBut.set_ | apply keep_drewN | apply keep_drew | apply keep_alloc)⟩, ⟨by repeat (with_reducible first | exact HB.out | apply below_alloc | apply pw_below_drewN | apply below_drew1 | refine below_set ?_ (IsS51.ge HI0.out))⟩⟩
 case rest =>
  clear HC3; (try clear c2); (try clear p2); (try clear c5); (try clear a9); (try clear p6); (try clear b0); (try clear b1); (try clear b3); (try clear b4); (try clear b2); (try clear b5); obtain ⟨kq, a5, rfl, HA, HJ2, HI0, HK, HB⟩ := hcut
  cases kq with
  | zero => exact absurd HA.out (by simp [spec_l20Rd_pick.j0])
  | succ kj2 =>
   have H := HA.out; clear HA
   simp only [spec_l20Rd_pick.j0] at H
   by_cases c7 : a5 = true
   ·
    subst c7
    rw [if_pos rfl] at H
    simp only [Option.some.injEq, Prod.mk.injEq] at H
    obtain ⟨rfl, rfl⟩ := H
    go_wp2
    repeat (go_quiet (fail); try go_wp2)
    go_ret
    exact ⟨by first | rfl | (simp [*, errW_none, errW_some] <;> rfl), by repeat (with_reducible first | exact HI0.out | apply IsS51.alloc | apply IsS51.drewN | apply IsS51.drew | apply IsS51.set_1), by repeat (with_reducible first | exact HB.out | apply below_alloc | apply pw_below_drewN | apply below_drew1 | refine below_set ?_ (IsS51.ge HI0.out)), by repeat (with_reducible first | exact HK.out | apply KeepBut.set_ | apply keep_drewN | apply keep_drew | apply keep_alloc)⟩
   ·
    replace c7 := Bool.eq_false_iff.mpr c7
    subst c7
    rw [if_neg (show ¬ (false = true) by decide)] at H
    by_cases c8 : (wrap64 ((wrap64 (s0_1 + 1)) - 1)) < (s0_0.length : Int)
    ·
     rw [if_pos c8] at H
     have b6 : decide ((wrap64 ((wrap64 (s0_1 + 1)) - 1)) < (s0_0.length : Int)) = true := decide_eq_true c8; clear c8; obtain ⟨ji9, hji9⟩ : ∃ j_ : Int, (wrap64 ((wrap64 (s0_1 + 1)) - 1)) = j_ := ⟨_, rfl⟩
     replace H : (if 0 ≤ (ji9) then (if a1 = 0 then (none) else (some (Int.tmod (wrap64 (rd s0_0 (ji9))) a1, (wrap64 (s0_1 + 1))))) else (none)) = some (r1, r2) := by first | (rw [hji9] at H; exact H) | (simp only [hji9] at H ⊢; exact H)
     (try rw [hji9] at b6)
     have hji9w : (IntKind.i64.wrap ((wrap64 (s0_1 + 1)) - 1)) = ji9 := (i64_w _).trans hji9
     by_cases c10 : 0 ≤ (ji9)
     ·
      rw [if_pos c10] at H
      replace c10 := decide_eq_true c10
      by_cases c11 : a1 = 0
      ·
       rw [if_pos c11] at H
       exact absurd H (by simp)
      ·
       rw [if_neg c11] at H
       have d8 := beq_eq_false_iff_ne.mpr c11; have d9 := bne_iff_ne.mpr c11
       simp only [Option.some.injEq, Prod.mk.injEq] at H
       obtain ⟨rfl, rfl⟩ := H; obtain ⟨b7, b8, HGz12, hgz12, HSz12_0⟩ := HI0.out; have b9 := cellS51_0 HGz12; have c0 := cellS51_1 HGz12; have c1 := blk_frozen HGz12 1; clear HGz12 hgz12; have p101 : 0 ≤ ((ji9) : Int) := of_decide_eq_true (by assumption); have q101 : (ji9) < (s0_0.length : Int) := of_decide_eq_true (by assumption); obtain ⟨ad101, d5, a6⟩ := Kd.at_int HSz12_0 (ji9) p101 q101
       cases d5
       replace a6 := pw_cell_below HB.out a6; replace p101 := eq_true p101; replace q101 := eq_true q101
       go_wp2
       repeat (go_quiet (fail); try go_wp2)
       go_ret
       exact ⟨by first | rfl | (simp [errW_none, errW_some] <;> rfl) | (simp only [← hji9]; first | rfl | (simp [errW_none, errW_some] <;> rfl)) | (simp [*, errW_none, errW_some] <;> rfl), by repeat (with_reducible first | exact HI0.out | apply IsS51.alloc | apply IsS51.drewN | apply IsS51.drew | apply IsS51.set_1), by repeat (with_reducible first | exact HB.out | apply below_alloc | apply pw_below_drewN | apply below_drew1 | refine below_set ?_ (IsS51.ge HI0.out)), by repeat (with_reducible first | exact HK.out | apply KeepBut.set_ | apply keep_drewN | apply keep_drew | apply keep_alloc)⟩
     ·
      rw [if_neg c10] at H
      exact absurd H (by simp)
    ·
     rw [if_neg c8] at H
     have b6 : decide ((wrap64 ((wrap64 (s0_1 + 1)) - 1)) < (s0_0.length : Int)) = false := decide_eq_false c8; clear c8
     by_cases c13 : (s0_0.length : Int) = 0
     ·
      rw [if_pos c13] at H
      exact absurd H (by simp)
     ·
      rw [if_neg c13] at H
      have e0 := beq_eq_false_iff_ne.mpr c13; have e1 := bne_iff_ne.mpr c13; have e2 : ¬ (s0_0 = []) := fun h_ => c13 (by rw [h_]; rfl); obtain ⟨ji14, hji14⟩ : ∃ j_ : Int, (Int.tmod (wrap64 ((wrap64 (s0_1 + 1)) - 1)) (s0_0.length : Int)) = j_ := ⟨_, rfl⟩
      replace H : (if 0 ≤ (ji14) then (if (ji14) < (s0_0.length : Int) then (if 0 ≤ (Int.tmod (wrap64 ((wrap64 ((wrap64 ((wrap64 (s0_1 + 1)) - 1)) * 7)) + 3)) (s0_0.length : Int)) then (if (Int.tmod (wrap64 ((wrap64 ((wrap64 ((wrap64 (s0_1 + 1)) - 1)) * 7)) + 3)) (s0_0.length : Int)) < (s0_0.length : Int) then (if a1 = 0 then (none) else (some (Int.tmod (Go.bits .xor .i64 (wrap64 ((wrap64 ((wrap64 ((wrap64 ((wrap64 (rd s0_0 (ji14))) * 131)) + (wrap64 ((wrap64 (rd s0_0 (Int.tmod (wrap64 ((wrap64 ((wrap64 ((wrap64 (s0_1 + 1)) - 1)) * 7)) + 3)) (s0_0.length : Int)))) * 1117)))) + (wrap64 ((wrap64 ((wrap64 (s0_1 + 1)) - 1)) * 29)))) + (wrap64 ((wrap64 (Int.tdiv (wrap64 ((wrap64 (s0_1 + 1)) - 1)) (s0_0.length : Int))) * 53)))) (wrap64 (Int.tdiv (wrap64 ((wrap64 ((wrap64 ((wrap64 ((wrap64 (rd s0_0 (ji14))) * 131)) + (wrap64 ((wrap64 (rd s0_0 (Int.tmod (wrap64 ((wrap64 ((wrap64 ((wrap64 (s0_1 + 1)) - 1)) * 7)) + 3)) (s0_0.length : Int)))) * 1117)))) + (wrap64 ((wrap64 ((wrap64 (s0_1 + 1)) - 1)) * 29)))) + (wrap64 ((wrap64 (Int.tdiv (wrap64 ((wrap64 (s0_1 + 1)) - 1)) (s0_0.length : Int))) * 53)))) 64))) a1, (wrap64 (s0_1 + 1))))) else (none)) else (none)) else (none)) else (none)) = some (r1, r2) := by first | (rw [hji14] at H; exact H) | (simp only [hji14] at H ⊢; exact H)
      by_cases c15 : 0 ≤ (ji14)
      ·
       rw [if_pos c15] at H
       replace c15 := decide_eq_true c15
       by_cases c16 : (ji14) < (s0_0.length : Int)
       ·
        rw [if_pos c16] at H
        replace c16 := decide_eq_true c16; obtain ⟨ji17, hji17⟩ : ∃ j_ : Int, (Int.tmod (wrap64 ((wrap64 ((wrap64 ((wrap64 (s0_1 + 1)) - 1)) * 7)) + 3)) (s0_0.length : Int)) = j_ := ⟨_, rfl⟩
        replace H : (if 0 ≤ (ji17) then (if (ji17) < (s0_0.length : Int) then (if a1 = 0 then (none) else (some (Int.tmod (Go.bits .xor .i64 (wrap64 ((wrap64 ((wrap64 ((wrap64 ((wrap64 (rd s0_0 (ji14))) * 131)) + (wrap64 ((wrap64 (rd s0_0 (ji17))) * 1117)))) + (wrap64 ((wrap64 ((wrap64 (s0_1 + 1)) - 1)) * 29)))) + (wrap64 ((wrap64 (Int.tdiv (wrap64 ((wrap64 (s0_1 + 1)) - 1)) (s0_0.length : Int))) * 53)))) (wrap64 (Int.tdiv (wrap64 ((wrap64 ((wrap64 ((wrap64 ((wrap64 (rd s0_0 (ji14))) * 131)) + (wrap64 ((wrap64 (rd s0_0 (ji17))) * 1117)))) + (wrap64 ((wrap64 ((wrap64 (s0_1 + 1)) - 1)) * 29)))) + (wrap64 ((wrap64 (Int.tdiv (wrap64 ((wrap64 (s0_1 + 1)) - 1)) (s0_0.length : Int))) * 53)))) 64))) a1, (wrap64 (s0_1 + 1))))) else (none)) else (none)) = some (r1, r2) := by first | (rw [hji17] at H; exact H) | (simp only [hji17] at H ⊢; exact H)
        by_cases c18 : 0 ≤ (ji17)
        ·
         rw [if_pos c18] at H
         replace c18 := decide_eq_true c18
         by_cases c19 : (ji17) < (s0_0.length : Int)
         ·
          rw [if_pos c19] at H
          replace c19 := decide_eq_true c19
          by_cases c20 : a1 = 0
          ·
           rw [if_pos c20] at H
           exact absurd H (by simp)
          ·
           rw [if_neg c20] at H
           have e3 := beq_eq_false_iff_ne.mpr c20; have e4 := bne_iff_ne.mpr c20
           simp only [Option.some.injEq, Prod.mk.injEq] at H
           obtain ⟨rfl, rfl⟩ := H; obtain ⟨c3, c4, HGz21, hgz21, HSz21_0⟩ := HI0.out; have c6 := cellS51_0 HGz21; have c9 := cellS51_1 HGz21; have d0 := blk_frozen HGz21 1; clear HGz21 hgz21; have p102 : 0 ≤ ((ji14) : Int) := of_decide_eq_true (by assumption); have q102 : (ji14) < (s0_0.length : Int) := of_decide_eq_true (by assumption); obtain ⟨ad102, d6, a7⟩ := Kd.at_int HSz21_0 (ji14) p102 q102
           cases d6
           replace a7 := pw_cell_below HB.out a7; replace p102 := eq_true p102; replace q102 := eq_true q102; have p103 : 0 ≤ ((ji17) : Int) := of_decide_eq_true (by assumption); have q103 : (ji17) < (s0_0.length : Int) := of_decide_eq_true (by assumption); obtain ⟨ad103, d7, a8⟩ := Kd.at_int HSz21_0 (ji17) p103 q103; obtain rfl : ad102 = ad103 := (by injection d7); replace a8 := pw_cell_below HB.out a8; replace p103 := eq_true p103; replace q103 := eq_true q103
           go_wp2
           repeat (go_quiet (fail); try go_wp2)
           go_ret
           exact ⟨by first | rfl | (simp [errW_none, errW_some] <;> rfl) | (simp only [← hji14, ← hji17]; first | rfl | (simp [errW_none, errW_some] <;> rfl)) | (simp [*, errW_none, errW_some] <;> rfl), by repeat (with_reducible first | exact HI0.out | apply IsS51.alloc | apply IsS51.drewN | apply IsS51.drew | apply IsS51.set_1), by repeat (with_reducible first | exact HB.out | apply below_alloc | apply pw_below_drewN | apply below_drew1 | refine below_set ?_ (IsS51.ge HI0.out)), by repeat (with_reducible first | exact HK.out | apply KeepBut.set_ | apply keep_drewN | apply keep_drew | apply keep_alloc)⟩
         ·
          rw [if_neg c19] at H
          exact absurd H (by simp)
        ·
         rw [if_neg c18] at H
         exact absurd H (by simp)
       ·
        rw [if_neg c16] at H
        exact absurd H (by simp)
      ·
       rw [if_neg c15] at H
       exact absurd H (by simp)
end
end Go.Proofs.YtfinaphomgdmlaaDoor.X
